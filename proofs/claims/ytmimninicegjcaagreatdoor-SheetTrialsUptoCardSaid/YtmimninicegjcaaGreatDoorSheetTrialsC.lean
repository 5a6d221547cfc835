/- Part 3 of the proof of RowTrials: LeafD, Sheet, TrialA, TrialB, LeafB, TrialD, TrialC, HandTrial, QT9, Cols, LawTrials, QT1, QT7, MarksCols, KeptT, PureB, PureC, PureA, PureD, PureE, PureF, PureG, PureH, PureI, PureJ, PureK. -/
import Derived.Outline
import Derived.Deep.QuietTactic
import Derived.BigQuiet
import Derived.Lib.ItoaLen
import Derived.Deep.RegionHeld3
import Derived.Deep.DeepCutAuto
import Derived.Test.YtmimninicegjcaaGreatDoorSheetTrialsA
import Derived.Test.YtmimninicegjcaaGreatDoorSheetTrialsB
/- money.Print, in the form that the printed texts take. -/
namespace Go.Proofs.YtmimninicegjcaaGreatDoor
open Go.RowKit Go.Shelf Go.Lib Go.Proofs.YtmimninicegjcaaGreatDoorW.PrintWords
set_option linter.unusedVariables false
set_option linter.unusedSimpArgs false

theorem ret_int {k : IntKind} {a b : Int} (h : a = b) : Ending.returned (.int k a) = Ending.returned (.int k b) := by rw [h]
theorem size_calls (a : Int) (h0 : -9223372036854775808 < a) (h1 : a ≤ 9223372036854775807) (w : World) :
    Calls Tryz.prog 149 #[.int .i64 a] w fun e w' => e = .returned (.int .u64 (a.natAbs : Int)) ∧ w = w' := by
  by_cases h : a < 0
  · go_enter Tryz.func149, Tryz.ntmps149
    go_wp2
    go_ret
    exact ⟨ret_int (by omega), rfl⟩
  · go_enter Tryz.func149, Tryz.ntmps149
    go_wp2
    go_ret
    exact ⟨ret_int (by omega), rfl⟩
theorem badDigits_calls (d : Int) (w : World) :
    Calls Tryz.prog 147 #[.int .i64 d] w fun e w' => e = .returned (.bool (decide (d < 0 ∨ 6 < d))) ∧ w = w' := by
  by_cases h : d < 0
  · have hd : decide (d < 0) = true := decide_eq_true h
    go_enter Tryz.func147, Tryz.ntmps147
    go_wp2
    go_ret
    exact ⟨by simp [h], rfl⟩
  · have hd : decide (d < 0) = false := decide_eq_false h
    go_enter Tryz.func147, Tryz.ntmps147
    go_wp2
    go_ret
    exact ⟨by simp [h], rfl⟩

def zerosB (n : Nat) : ByteArray := ⟨(Lib.repeatL [48] n).toArray⟩
/-- The digits with enough zeros ahead. -/
def padded (s : ByteArray) (d : Nat) : ByteArray := if s.size < d + 1 then zerosB (d + 1 - s.size) ++ s else s
def pointed (s : ByteArray) (d : Nat) : ByteArray := if 0 < d then s.extract 0 (s.size - d) ++ ⟨#[46]⟩ ++ s.extract (s.size - d) s.size else s
def moneyText (a : Int) (d : Nat) : ByteArray :=
  let s := pointed (padded ⟨(Lib.decDigits a.natAbs).toArray⟩ d) d
  if a < 0 then ⟨#[45]⟩ ++ s else s
theorem decDigits_size (u : Nat) (hu : u < 18446744073709551616) : 1 ≤ (⟨(Lib.decDigits u).toArray⟩ : ByteArray).size ∧ (⟨(Lib.decDigits u).toArray⟩ : ByteArray).size ≤ 20 := by
  show 1 ≤ (Lib.decDigits u).toArray.size ∧ (Lib.decDigits u).toArray.size ≤ 20
  simp only [List.size_toArray, Lib.decDigits_length]
  exact ⟨Lib.nDigits_pos u, Lib.nDigits_le20 u hu⟩

theorem Repeat_zero (k : Nat) (hk : k ≤ 100) : L_Repeat.f ⟨#[48]⟩ (k : Int) = some (zerosB k) := by
  unfold L_Repeat.f zerosB
  have h1 : (⟨#[48]⟩ : ByteArray).size ≤ 64 := by decide
  have h2 : (k : Int) ≤ 1099511627776 := by omega
  rw [if_pos ⟨Int.natCast_nonneg k, h2, h1⟩, Int.toNat_natCast]
theorem zerosB_size (k : Nat) : (zerosB k).size = k := by simp [zerosB, mk_size, Lib.repeatL_length]

theorem pointed_eq {x : ByteArray} {j n : Nat} (hj : x.size = j + n) (hn : 0 < n) : pointed x n = x.extract 0 j ++ ⟨#[46]⟩ ++ x.extract j x.size := by
  unfold pointed
  rw [if_pos hn, show x.size - n = j by omega]
theorem extract_le (x : ByteArray) (i j : Nat) : (x.extract i j).size ≤ x.size := by rw [ByteArray.size_extract]; omega
set_option maxHeartbeats 4000000 in
set_option maxRecDepth 100000 in
/-- The walk; s0: the digits; k: how many zeros go ahead of them. -/
theorem Print_walkA (a : Int) (n k : Nat) (s0 z0 T : ByteArray) (h0 : -9223372036854775808 < a) (h1 : a ≤ 9223372036854775807) (w : World) (hL : Laid w)
    (hf : L_FormatUint.f (a.natAbs : Int) 10 = some s0) (hz : L_Repeat.f ⟨#[48]⟩ (k : Int) = some z0) (hk : k = n + 1 - s0.size ∧ 0 < k) (hn : n ≤ 6) (hs1 : 1 ≤ s0.size) (hs2 : s0.size ≤ 20) (hz0 : z0.size = k)
    (hT : T = if a < 0 then ⟨#[45]⟩ ++ pointed (z0 ++ s0) n else pointed (z0 ++ s0) n) :
    Calls Tryz.prog 98 #[.int .i64 a, .int .i64 (n : Int)] w fun e w' => e = .returned (.tuple #[.string T, .int .i64 0]) ∧ Below w.heap.size w w' := by
  have i3 : 0 ≤ (n : Int) := by omega
  have i2 : (n : Int) ≤ 6 := by omega
  have i4 : 1 ≤ (s0.size : Int) := by omega
  have i5 : (s0.size : Int) ≤ 20 := by omega
  have HF := Aside0.mk hf
  have HL := Aside0.mk hL
  have hb : decide ((n : Int) < 0 ∨ 6 < (n : Int)) = false := decide_eq_false (by omega)
  have hne : (a == -9223372036854775808) = false := beq_eq_false_iff_ne.2 (by omega)
  clear hf hL
  obtain ⟨hk, hp⟩ := hk
  have i6 : (s0.size : Int) ≤ n := by omega
  have ek : (n : Int) + 1 - (s0.size : Int) = (k : Int) := by omega
  have i7 : (z0.size : Int) = (k : Int) := by omega
  have HZ := Aside0.mk hz
  have HE := Aside0.mk ek
  clear hz ek
  have i8 : 1 ≤ (z0.size : Int) := by omega
  have i10 : (n : Int) + 1 ≤ (z0.size : Int) + (s0.size : Int) := by omega
  have i9 : (z0.size : Int) ≤ 7 := by omega
  have b1 : (9223372036854775807 < z0.size + s0.size) = False := eq_false (by omega)
  have b3 : (9223372036854775807 < 1 + (z0.size + s0.size)) = False := eq_false (by omega)
  clear i7 hp hk hs1 hs2 hz0 hn
  have HT := Aside0.mk hT
  clear hT
  go_enter Tryz.func98, Tryz.ntmps98
  go_wp2_with fail
  refine (badDigits_calls n _).mono ?_
  rintro e w1 ⟨rfl, rfl⟩
  rw [hb]
  go_wp2_with fail
  refine (size_calls a h0 h1 _).mono ?_
  rintro e w1 ⟨rfl, rfl⟩
  clear h0 h1
  go_wp2_with fail
  refine (L_FormatUint.calls _ _ _ _ HL.out HF.out).mono ?_
  rintro e w1 ⟨rfl, hb1⟩
  have HB := Aside0.mk hb1
  clear hb1
  go_wp2_with fail
  rw [HE.out]
  refine (L_Repeat.calls _ _ _ _ HZ.out).mono ?_
  rintro e w2 ⟨rfl, hb2⟩
  have HB2 := Aside0.mk hb2
  clear hb2
  by_cases hd : 0 < (n : Int)
  · go_wp2_with fail
    generalize hx : z0 ++ s0 = x
    have hxs : x.size = z0.size + s0.size := by rw [← hx, ByteArray.size_append]
    have HX := Aside0.mk hx
    clear hx
    obtain ⟨j, hj⟩ : ∃ j : Nat, x.size = j + n := ⟨x.size - n, by omega⟩
    have e1 : IntKind.i64.wrap ((x.size : Int) - (n : Int)) = (j : Int) := by rw [IntKind.wrap_i64]; omega
    have e2 : (j : Int) ≤ (x.size : Int) := by omega
    have e3 : j ≤ x.size := by omega
    have e4 : (9223372036854775807 < j + 1) = False := eq_false (by omega)
    have e5 : (9223372036854775807 < j + 1 + (x.size - j)) = False := eq_false (by omega)
    have HP := Aside0.mk (pointed_eq hj (by omega))
    have hys : (x.extract 0 j ++ ⟨#[46]⟩ ++ x.extract j x.size).size ≤ 100 := by
      have := extract_le x 0 j
      have := extract_le x j x.size
      have e46 : (⟨#[46]⟩ : ByteArray).size = 1 := rfl
      rw [ByteArray.size_append, ByteArray.size_append, e46]
      omega
    clear hj hxs
    have HYS := Aside0.mk hys
    clear hys
    go_quiet (fail)
    have hys := HYS.out
    clear HYS e1 e2 e3 e4 e5
    generalize hy : x.extract 0 j ++ ⟨#[46]⟩ ++ x.extract j x.size = y at hys ⊢
    have HY := Aside0.mk hy
    clear hy
    have b2 : (9223372036854775807 < 1 + y.size) = False := eq_false (by omega)
    clear hys
    by_cases ha : a < 0
    all_goals go_wp2_with fail
    all_goals go_ret2
    · exact ⟨by rw [HT.out, if_pos ha, HX.out, HP.out, HY.out]; rfl, by repeat (first | exact below_step HB.out HB2.out | apply pw_below_drewN)⟩
    · exact ⟨by rw [HT.out, if_neg (Int.not_lt.2 ha), HX.out, HP.out, HY.out]; rfl, by repeat (first | exact below_step HB.out HB2.out | apply pw_below_drewN)⟩
  · exact absurd hd (by omega)
set_option maxHeartbeats 4000000 in
set_option maxRecDepth 100000 in
/-- The walk; s0: the digits; k: how many zeros go ahead of them. -/
theorem Print_walkB (a : Int) (n k : Nat) (s0 z0 T : ByteArray) (h0 : -9223372036854775808 < a) (h1 : a ≤ 9223372036854775807) (w : World) (hL : Laid w)
    (hf : L_FormatUint.f (a.natAbs : Int) 10 = some s0) (hk : n + 1 ≤ s0.size) (hn : n ≤ 6) (hs1 : 1 ≤ s0.size) (hs2 : s0.size ≤ 20) 
    (hT : T = if a < 0 then ⟨#[45]⟩ ++ pointed (s0) n else pointed (s0) n) :
    Calls Tryz.prog 98 #[.int .i64 a, .int .i64 (n : Int)] w fun e w' => e = .returned (.tuple #[.string T, .int .i64 0]) ∧ Below w.heap.size w w' := by
  have i3 : 0 ≤ (n : Int) := by omega
  have i2 : (n : Int) ≤ 6 := by omega
  have i4 : 1 ≤ (s0.size : Int) := by omega
  have i5 : (s0.size : Int) ≤ 20 := by omega
  have HF := Aside0.mk hf
  have HL := Aside0.mk hL
  have hb : decide ((n : Int) < 0 ∨ 6 < (n : Int)) = false := decide_eq_false (by omega)
  have hne : (a == -9223372036854775808) = false := beq_eq_false_iff_ne.2 (by omega)
  clear hf hL
  have i6 : (n : Int) + 1 ≤ (s0.size : Int) := by omega
  have b3 : (9223372036854775807 < 1 + s0.size) = False := eq_false (by omega)
  clear hk hs1 hs2 hn
  have HT := Aside0.mk hT
  clear hT
  go_enter Tryz.func98, Tryz.ntmps98
  go_wp2_with fail
  refine (badDigits_calls n _).mono ?_
  rintro e w1 ⟨rfl, rfl⟩
  rw [hb]
  go_wp2_with fail
  refine (size_calls a h0 h1 _).mono ?_
  rintro e w1 ⟨rfl, rfl⟩
  clear h0 h1
  go_wp2_with fail
  refine (L_FormatUint.calls _ _ _ _ HL.out HF.out).mono ?_
  rintro e w1 ⟨rfl, hb1⟩
  have HB := Aside0.mk hb1
  clear hb1
  by_cases hd : 0 < (n : Int)
  · go_wp2_with fail
    obtain ⟨x, hx⟩ : ∃ x, x = s0 := ⟨_, rfl⟩
    subst hx
    have hxs : True := trivial
    obtain ⟨j, hj⟩ : ∃ j : Nat, x.size = j + n := ⟨x.size - n, by omega⟩
    have e1 : IntKind.i64.wrap ((x.size : Int) - (n : Int)) = (j : Int) := by rw [IntKind.wrap_i64]; omega
    have e2 : (j : Int) ≤ (x.size : Int) := by omega
    have e3 : j ≤ x.size := by omega
    have e4 : (9223372036854775807 < j + 1) = False := eq_false (by omega)
    have e5 : (9223372036854775807 < j + 1 + (x.size - j)) = False := eq_false (by omega)
    have HP := Aside0.mk (pointed_eq hj (by omega))
    have hys : (x.extract 0 j ++ ⟨#[46]⟩ ++ x.extract j x.size).size ≤ 100 := by
      have := extract_le x 0 j
      have := extract_le x j x.size
      have e46 : (⟨#[46]⟩ : ByteArray).size = 1 := rfl
      rw [ByteArray.size_append, ByteArray.size_append, e46]
      omega
    clear hj hxs
    have HYS := Aside0.mk hys
    clear hys
    go_quiet (fail)
    have hys := HYS.out
    clear HYS e1 e2 e3 e4 e5
    generalize hy : x.extract 0 j ++ ⟨#[46]⟩ ++ x.extract j x.size = y at hys ⊢
    have HY := Aside0.mk hy
    clear hy
    have b2 : (9223372036854775807 < 1 + y.size) = False := eq_false (by omega)
    clear hys
    by_cases ha : a < 0
    all_goals go_wp2_with fail
    all_goals go_ret2
    · exact ⟨by rw [HT.out, if_pos ha, HP.out, HY.out]; rfl, by repeat (first | exact HB.out | apply pw_below_drewN)⟩
    · exact ⟨by rw [HT.out, if_neg (Int.not_lt.2 ha), HP.out, HY.out]; rfl, by repeat (first | exact HB.out | apply pw_below_drewN)⟩
  · have hp0 : ∀ z, pointed z n = z := fun z => by unfold pointed; rw [if_neg (by omega)]
    have HP0 := Aside0.mk hp0
    clear hp0
    by_cases ha : a < 0
    all_goals go_wp2_with fail
    all_goals go_ret2
    · exact ⟨by rw [HT.out, if_pos ha, HP0.out]; rfl, HB.out⟩
    · exact ⟨by rw [HT.out, if_neg (Int.not_lt.2 ha), HP0.out]; rfl, HB.out⟩

theorem Print_good (a d : Int) (h0 : -9223372036854775808 < a) (h1 : a ≤ 9223372036854775807) (hd0 : 0 ≤ d) (hd1 : d ≤ 6) (w : World) (hL : Laid w) :
    Calls Tryz.prog 98 #[.int .i64 a, .int .i64 d] w fun e w' => e = .returned (.tuple #[.string (moneyText a d.toNat), .int .i64 0]) ∧ Below w.heap.size w w' := by
  obtain ⟨n, rfl⟩ := Int.eq_ofNat_of_zero_le hd0
  rw [Int.toNat_natCast]
  have hu : a.natAbs < 18446744073709551616 := by omega
  have hf : L_FormatUint.f (a.natAbs : Int) 10 = some ⟨(Lib.decDigits a.natAbs).toArray⟩ := by
    unfold L_FormatUint.f
    rw [if_pos (by omega), Int.toNat_natCast]
  obtain ⟨hs1, hs2⟩ := decDigits_size a.natAbs hu
  have hm : moneyText a n = if a < 0 then ⟨#[45]⟩ ++ pointed (padded ⟨(Lib.decDigits a.natAbs).toArray⟩ n) n else pointed (padded ⟨(Lib.decDigits a.natAbs).toArray⟩ n) n := rfl
  unfold padded at hm
  by_cases hp : (⟨(Lib.decDigits a.natAbs).toArray⟩ : ByteArray).size < n + 1
  · rw [if_pos hp] at hm
    exact Print_walkA a n (n + 1 - (⟨(Lib.decDigits a.natAbs).toArray⟩ : ByteArray).size) _ (zerosB (n + 1 - (⟨(Lib.decDigits a.natAbs).toArray⟩ : ByteArray).size)) _ h0 h1 w hL hf (Repeat_zero _ (by omega)) ⟨rfl, by omega⟩ (by omega) hs1 hs2 (zerosB_size _) hm
  · rw [if_neg hp] at hm
    exact Print_walkB a n 0 _ ⟨#[]⟩ _ h0 h1 w hL hf (by omega) (by omega) hs1 hs2 hm
theorem Print_badDigits (a d : Int) (hd : d < 0 ∨ 6 < d) (w : World) :
    Calls Tryz.prog 98 #[.int .i64 a, .int .i64 d] w fun e w' => e = .returned (.tuple #[.string ⟨#[]⟩, .int .i64 1]) ∧ w = w' := by
  have hb : decide (d < 0 ∨ 6 < d) = true := decide_eq_true hd
  go_enter Tryz.func98, Tryz.ntmps98
  go_wp2_with fail
  refine (badDigits_calls d _).mono ?_
  rintro e w1 ⟨rfl, rfl⟩
  rw [hb]
  go_wp2_with fail
  go_ret2
  exact ⟨rfl, rfl⟩
theorem Print_none (d : Int) (hd0 : 0 ≤ d) (hd1 : d ≤ 6) (w : World) :
    Calls Tryz.prog 98 #[.int .i64 (-9223372036854775808), .int .i64 d] w fun e w' => e = .returned (.tuple #[.string ⟨#[]⟩, .int .i64 10]) ∧ w = w' := by
  have hb : decide (d < 0 ∨ 6 < d) = false := decide_eq_false (by omega)
  go_enter Tryz.func98, Tryz.ntmps98
  go_wp2_with fail
  refine (badDigits_calls d _).mono ?_
  rintro e w1 ⟨rfl, rfl⟩
  rw [hb]
  go_wp2_with fail
  go_ret2
  exact ⟨rfl, rfl⟩
def isI64 (a : Int) : Prop := -9223372036854775808 ≤ a ∧ a ≤ 9223372036854775807
instance (a : Int) : Decidable (isI64 a) := by unfold isI64; infer_instance
def L_Print.f (a0 a1 : Int) : Option (ByteArray × Int) :=
  if a1 < 0 ∨ 6 < a1 then some (⟨#[]⟩, 1) else if a0 = -9223372036854775808 then some (⟨#[]⟩, 10) else if isI64 a0 then some (moneyText a0 a1.toNat, 0) else none
theorem L_Print.calls (a0 a1 : Int) (r1 : ByteArray) (r2 : Int) (w : World) (hL : Laid w) (h : L_Print.f a0 a1 = some (r1, r2)) :
    Calls Tryz.prog 98 #[.int .i64 a0, .int .i64 a1] w fun e w' => e = .returned (.tuple #[.string r1, .int .i64 r2]) ∧ Below w.heap.size w w' := by
  unfold L_Print.f at h
  split at h
  · rename_i hd
    simp only [Option.some.injEq, Prod.mk.injEq] at h
    obtain ⟨rfl, rfl⟩ := h
    exact (Print_badDigits a0 a1 hd w).mono fun e w' ⟨he, hw⟩ => ⟨he, hw ▸ Below.refl _ _⟩
  · rename_i hd
    split at h
    · rename_i ha
      subst ha
      simp only [Option.some.injEq, Prod.mk.injEq] at h
      obtain ⟨rfl, rfl⟩ := h
      exact (Print_none a1 (by omega) (by omega) w).mono fun e w' ⟨he, hw⟩ => ⟨he, hw ▸ Below.refl _ _⟩
    · rename_i ha
      split at h
      · rename_i hi
        simp only [Option.some.injEq, Prod.mk.injEq] at h
        obtain ⟨rfl, rfl⟩ := h
        exact Print_good a0 a1 (by have := hi.1; omega) hi.2 (by omega) (by omega) w hL
      · exact absurd h (by simp)
end Go.Proofs.YtmimninicegjcaaGreatDoor
/- package sheet's own state: what fail, amount, total and row do to a sheet. -/
namespace Go.Proofs.YtmimninicegjcaaGreatDoor
open Go.RowKit Go.Shelf Go.Lib Go.Proofs.YtmimninicegjcaaGreatDoorW.PrintWords Go.Proofs.YtmimninicegjcaaGreatDoorW.PrintLast Go.Proofs.YtmimninicegjcaaGreatDoorW.PrintMore
set_option linter.unusedVariables false
set_option linter.unusedSimpArgs false

abbrev kRows : Kd (List ByteArray) := Kd.slice 9 Kd.string
/-- A sheet at block g: its digits, its first fault, its rows (made since base). -/
structure Sh (w : World) (base g : Nat) (d y : Int) (rows : List (List ByteArray)) : Prop where
  ex : ∃ vr, w.heap[g]? = some (.cells #[.int .i64 d, .int .i64 y, vr] 82 (0, 0)) ∧ kRows.R 90 w base (fun _ => True) vr rows
  ge : base ≤ g
/-- What a sheet's calls leave: blocks of other types than a sheet's own two. -/
structure KT (w w' : World) : Prop where
  size : w.heap.size ≤ w'.heap.size
  keep : ∀ (k : Nat) (c : Array Value) (t : Nat) , w.heap[k]? = some (.cells c t (0, 0)) → t ≠ 82 → t ≠ 90 → w'.heap[k]? = some (.cells c t (0, 0))
theorem KT.refl (w : World) : KT w w := ⟨Nat.le_refl _, fun _ _ _ h _ _ => h⟩
theorem KT.trans {a b c : World} (h : KT a b) (k : KT b c) : KT a c := ⟨Nat.le_trans h.size k.size, fun i cs t hi h1 h2 => k.keep i cs t (h.keep i cs t hi h1 h2) h1 h2⟩
theorem KT.below {w W : World} (hb : Below w.heap.size w W) : KT w W := ⟨hb.size, fun k c t h _ _ => (hb.block k (blk_lt h)).trans h⟩
theorem KT.below' {a w W : World} (h : KT a w) (hb : Below w.heap.size w W) : KT a W := h.trans (.below hb)
theorem KT.kd {α : Type} {d : Kd α} {e base : Nat} {ok : Nat → Prop} {w W : World} {v : Value} {xs : List α} (h : KT w W) (hr : d.R e w base ok v xs) (ht : ∀ q, q ∈ e :: d.E → q ≠ 82 ∧ q ≠ 90) : d.R e W base ok v xs := by
  refine Kd.R_mono (Kd.R_move (Kd.R_bound hr) (fun k hk => ?_)) (fun _ hk => hk.1)
  obtain ⟨_, _, _, q, hq, cells, hc⟩ := hk
  rw [hc]
  exact h.keep k _ _ hc (ht q hq).1 (ht q hq).2
theorem Sh.below {w W : World} {base g : Nat} {d y : Int} {rows : List (List ByteArray)} (h : Sh w base g d y rows) (hb : Below w.heap.size w W) : Sh W base g d y rows := by
  obtain ⟨vr, h1, h2⟩ := h.ex
  exact ⟨⟨vr, (hb.block g (blk_lt h1)).trans h1, Kd.R_below h2 hb⟩, h.ge⟩
theorem Sh.lt {w : World} {base g : Nat} {d y : Int} {rows : List (List ByteArray)} (h : Sh w base g d y rows) : g < w.heap.size := by
  obtain ⟨vr, h1, h2⟩ := h.ex
  exact blk_lt h1
theorem Sh.base_le {w : World} {base g : Nat} {d y : Int} {rows : List (List ByteArray)} (h : Sh w base g d y rows) : base ≤ w.heap.size := Nat.le_of_lt (Nat.lt_of_le_of_lt h.ge h.lt)
theorem Sh.set {w : World} {base g : Nat} {d y : Int} {rows : List (List ByteArray)} (h : Sh w base g d y rows) (e : Int) : Sh (w.setCell ⟨g, 1, none⟩ (.int .i64 e)) base g d e rows ∧ KT w (w.setCell ⟨g, 1, none⟩ (.int .i64 e)) ∧ Below base w (w.setCell ⟨g, 1, none⟩ (.int .i64 e)) := by
  obtain ⟨vr, h1, h2⟩ := h.ex
  refine ⟨⟨⟨vr, by simpa using blk_set h1 1 (.int .i64 e), ?_⟩, h.ge⟩, ⟨by simp [World.setCell], fun k c t hk ht _ => ?_⟩, (Below.refl _ _).setCell h.ge _⟩
  · exact Kd.R_mono (Kd.R_far (Kd.R_types h2 h1 (by decide)) (p := ⟨g, 1, none⟩) (fun k hk => hk.2) _) (fun _ _ => trivial)
  · refine (Below.heap_setCell w ⟨g, 1, none⟩ _ k ?_).trans hk
    rintro rfl
    rw [h1] at hk
    injection hk with hk
    injection hk with _ hk
    exact ht hk.symm

theorem fail_exact (w : World) (g : Nat) (d y e : Int) (vr : Value) (hb : w.heap[g]? = some (.cells #[.int .i64 d, .int .i64 y, vr] 82 (0, 0))) :
    Calls Tryz.prog 39 #[.pointer (some ⟨g, 0, none⟩), .int .i64 e] w fun en w' =>
      en = .returned (.tuple #[]) ∧ w' = if y = 0 then w.setCell ⟨g, 1, none⟩ (.int .i64 e) else w := by
  have h1 : w.cell? ⟨g, 1, none⟩ = some (.int .i64 y) := blk_cell hb 1
  have f1 := blk_frozen hb 1
  by_cases hy : y = 0
  · subst hy
    go_enter Tryz.func39, Tryz.ntmps39
    go_wp2
    go_end0
    exact ⟨rfl, by simp⟩
  · have hy' : (y == 0) = false := beq_eq_false_iff_ne.2 hy
    go_enter Tryz.func39, Tryz.ntmps39
    go_wp2
    go_end0
    exact ⟨rfl, by simp [hy]⟩
/-- The first fault stays. -/
def first1 (y e : Int) : Int := if y = 0 then e else y
theorem Sh.fail {w : World} {base g : Nat} {d y : Int} {rows : List (List ByteArray)} (h : Sh w base g d y rows) (e : Int) :
    Calls Tryz.prog 39 #[.pointer (some ⟨g, 0, none⟩), .int .i64 e] w fun en w' =>
      en = .returned (.tuple #[]) ∧ Sh w' base g d (first1 y e) rows ∧ KT w w' ∧ Below base w w' := by
  obtain ⟨vr, h1, h2⟩ := h.ex
  refine (fail_exact w g d y e vr h1).mono ?_
  rintro en w' ⟨rfl, rfl⟩
  unfold first1
  by_cases hy : y = 0
  · rw [if_pos hy, if_pos hy]
    exact ⟨rfl, h.set e⟩
  · rw [if_neg hy, if_neg hy]
    exact ⟨rfl, h, .refl _, .refl _ _⟩
/-- What a call's fault does. -/
def after (y e e' : Int) : Int := if e = 0 then y else first1 y e'
theorem Sh.amount {w : World} {base g : Nat} {d y : Int} {rows : List (List ByteArray)} (h : Sh w base g d y rows) (hL : Laid w) {a : Int} {t : ByteArray} {e : Int} (hm : L_Print.f a d = some (t, e)) :
    Calls Tryz.prog 42 #[.pointer (some ⟨g, 0, none⟩), .int .i64 a] w fun en w' =>
      en = .returned (.string t) ∧ Sh w' base g d (after y e e) rows ∧ KT w w' ∧ Below base w w' := by
  have hS := h
  obtain ⟨vr, h1, h2⟩ := h.ex
  have h0 : w.cell? ⟨g, 0, none⟩ = some (.int .i64 d) := blk_cell h1 0
  have HM := Aside0.mk hm
  have HS := Aside0.mk hS
  have HL := Aside0.mk hL
  clear hm hS hL h h1 h2
  by_cases he : e = 0
  · subst he
    go_enter Tryz.func42, Tryz.ntmps42
    go_wp2_with fail
    refine (L_Print.calls _ _ _ _ _ HL.out HM.out).mono ?_
    rintro en w1 ⟨rfl, hb⟩
    have HB := Aside0.mk hb
    clear hb
    go_wp2_with fail
    go_ret
    exact ⟨rfl, by simpa [after] using HS.out.below HB.out, .below HB.out, HB.out.mono HS.out.base_le⟩
  · have he' : (e == 0) = false := beq_eq_false_iff_ne.2 he
    have HE := Aside0.mk he
    clear he
    go_enter Tryz.func42, Tryz.ntmps42
    go_wp2_with fail
    refine (L_Print.calls _ _ _ _ _ HL.out HM.out).mono ?_
    rintro en w1 ⟨rfl, hb⟩
    have HB := Aside0.mk hb
    clear hb
    go_wp2_with fail
    refine ((HS.out.below HB.out).fail e).mono ?_
    rintro en w2 ⟨rfl, h3, h4, h5⟩
    have H3 := Aside0.mk h3
    have H4 := Aside0.mk h4
    have H5 := Aside0.mk h5
    clear h3 h4 h5
    go_wp2_with fail
    go_ret
    exact ⟨rfl, by rw [after, if_neg HE.out]; exact H3.out, (KT.below HB.out).trans H4.out, (HB.out.mono HS.out.base_le).trans H5.out⟩
theorem Sh.total {w : World} {base g : Nat} {d y : Int} {rows : List (List ByteArray)} (h : Sh w base g d y rows) {A : Option Addr} {c : Nat} {l : List Int} {v e : Int} (hr : Kd.C (Kd.int .i64) w A l.length l) (hc : l.length ≤ c) (hm : L_Sum.f l = some (v, e)) :
    Calls Tryz.prog 40 #[.pointer (some ⟨g, 0, none⟩), .slice A l.length c] w fun en w' =>
      en = .returned (.int .i64 v) ∧ Sh w' base g d (after y e 11) rows ∧ KT w w' ∧ Below base w w' := by
  have HM := Aside0.mk hm
  have HS := Aside0.mk h
  have HR := Aside0.mk hr
  have HC := Aside0.mk hc
  clear hm h hr hc
  by_cases he : e = 0
  · subst he
    go_enter Tryz.func40, Tryz.ntmps40
    go_wp2_with fail
    refine (L_Sum.calls _ _ _ _ _ _ HR.out HC.out HM.out).mono ?_
    rintro en w1 ⟨rfl, hb⟩
    have HB := Aside0.mk hb.below
    clear hb
    go_wp2_with fail
    go_ret
    exact ⟨rfl, by simpa [after] using HS.out.below HB.out, .below HB.out, HB.out.mono HS.out.base_le⟩
  · have he' : (e == 0) = false := beq_eq_false_iff_ne.2 he
    have HE := Aside0.mk he
    clear he
    go_enter Tryz.func40, Tryz.ntmps40
    go_wp2_with fail
    refine (L_Sum.calls _ _ _ _ _ _ HR.out HC.out HM.out).mono ?_
    rintro en w1 ⟨rfl, hb⟩
    have HB := Aside0.mk hb.below
    clear hb
    go_wp2_with fail
    refine ((HS.out.below HB.out).fail 11).mono ?_
    rintro en w2 ⟨rfl, h3, h4, h5⟩
    have H3 := Aside0.mk h3
    have H4 := Aside0.mk h4
    have H5 := Aside0.mk h5
    clear h3 h4 h5
    go_wp2_with fail
    go_ret
    exact ⟨rfl, by rw [after, if_neg HE.out]; exact H3.out, (KT.below HB.out).trans H4.out, (HB.out.mono HS.out.base_le).trans H5.out⟩
theorem info_strs : (Tryz.prog.info? 90).map (fun i => (i.zero, i.size, i.bytes)) = some (some (.slice none 0 0), 1, 24) := by kernel_rfl
theorem Sh.row {w : World} {base g : Nat} {d y : Int} {rows : List (List ByteArray)} (h : Sh w base g d y rows) {A : Option Addr} {n c : Nat} {r : List ByteArray} (hr : Kd.R Kd.string 9 w base (fun _ => True) (.slice A n c) r) (hl : rows.length < 5864062014805) :
    Calls Tryz.prog 43 #[.pointer (some ⟨g, 0, none⟩), .slice A n c] w fun en w' =>
      en = .returned (.tuple #[]) ∧ Sh w' base g d y (rows ++ [r]) ∧ KT w w' ∧ Below base w w' := by
  have HG := Aside0.mk h.ge
  have HZ := Aside0.mk h.base_le
  obtain ⟨vr, h1, h2⟩ := h.ex
  have h0 : w.cell? ⟨g, 2, none⟩ = some vr := blk_cell h1 2
  have HK := Aside0.mk h1
  have HR := Aside0.mk h2
  have HN := Aside0.mk hr
  have HLN := Aside0.mk hl
  clear h1 h2 hr h hl
  go_enter Tryz.func43, Tryz.ntmps43
  go_wp2_with (at_builtin; refine Kd.R_append kRows (w0 := w) base rfl (.tmp 8) (.tmp 10) 80 90 (.slice none 0 0) 24 rfl Tryz.underlying80 info_strs rfl (by decide) (by decide) vr rows r [.slice A n c] (fun _ => True) (fun k => some k ≠ vr.ownBlock) rfl rfl ?aP (fun _ hk => ⟨trivial, hk⟩) (fun _ _ => trivial) ?aO ?aB ?aS ?aL ?_)
  case aP => exact Kd.M_row (Kd.R_mono (Kd.R_apartR HN.out HR.out (by decide)) (fun _ hk => hk.2))
  case aO => exact HR.out
  case aB => exact Below.refl _ _
  case aS => exact HZ.out
  case aL => have := HLN.out; omega
  intro v1 w1 ho hb hg hat
  obtain ⟨A1, c1, rfl⟩ := Kd.R_slice ho
  rw [show (rows ++ [r]).length = rows.length + 1 by simp] at ho hat
  have hblk := blk_grown HK.out hg (Kd.R_ne HR.out HK.out (by decide))
  have HO := Aside0.mk ho
  have HBL := Aside0.mk hb
  have HGR := Aside0.mk hg
  have HK1 := Aside0.mk hblk
  have f2 : w1.frozen? ⟨g, 2, none⟩ = false := blk_frozen HK1.out 2
  have c2 : w1.cell? ⟨g, 2, none⟩ = some vr := blk_cell HK1.out 2
  clear ho hb hg hat hblk
  go_wp2
  go_end0
  refine ⟨rfl, ⟨⟨.slice A1 (rows.length + 1) c1, by simpa using blk_set HK1.out 2 (.slice A1 (rows.length + 1) c1), ?_⟩, HG.out⟩, ⟨?_, fun k cs t hk ht1 ht2 => ?_⟩, HBL.out.setCell HG.out _⟩
  · exact Kd.R_mono (Kd.R_far (Kd.R_types HO.out HK1.out (by decide)) (p := ⟨g, 2, none⟩) (fun k hk => hk.2) _) (fun _ _ => trivial)
  · simpa [World.setCell] using HGR.out.size
  · have hne : k ≠ g := by
      rintro rfl
      have := HK.out
      rw [hk] at this
      injection this with this
      injection this with _ this
      exact ht1 this
    refine (Below.heap_setCell w1 ⟨g, 2, none⟩ _ k hne).trans ((HGR.out.block k (blk_lt hk) ?_).trans hk)
    intro he
    obtain ⟨cells, hc⟩ := Kd.R_typed HR.out k he.symm
    rw [hk] at hc
    injection hc with hc
    injection hc with _ hc
    exact ht2 hc
end Go.Proofs.YtmimninicegjcaaGreatDoor
/- sheet.Trial's small callees: begin, end's two ways, the closures. -/
namespace Go.Proofs.YtmimninicegjcaaGreatDoor
open Go.RowKit Go.Shelf Go.Lib Go.Proofs.YtmimninicegjcaaGreatDoorW.PrintWords Go.Proofs.YtmimninicegjcaaGreatDoorW.PrintLast Go.Proofs.YtmimninicegjcaaGreatDoorW.PrintMore
set_option linter.unusedVariables false
set_option linter.unusedSimpArgs false

theorem Sh.new (w : World) (d : Int) : Sh (w.alloc (.cells #[.int .i64 d, .int .i64 0, .slice none 0 0] 82 (0, 0))) w.heap.size w.heap.size d 0 [] :=
  ⟨⟨.slice none 0 0, heap_alloc_new w _, Kd.R_nil _ _ _ _ _⟩, Nat.le_refl _⟩
/-- The fault that the digits are. -/
def why0 (d : Int) : Int := if 0 ≤ d ∧ d ≤ 6 then 0 else 1
theorem begin_calls (d : Int) (w : World) :
    Calls Tryz.prog 37 #[.int .i64 d] w fun en w' =>
      en = .returned (.pointer (some ⟨w.heap.size, 0, none⟩)) ∧ Sh w' w.heap.size w.heap.size d (why0 d) [] ∧ Below w.heap.size w w' := by
  have HB := Aside0.mk (below_alloc (Below.refl w.heap.size w) (.cells #[.int .i64 d, .int .i64 0, .slice none 0 0] 82 (0, 0)))
  have HS := Aside0.mk (Sh.new w d)
  by_cases h0 : d < 0
  · have h6 : ¬ (0 ≤ d ∧ d ≤ 6) := by omega
    have H6 := Aside0.mk h6
    have h0' : decide (d < 0) = true := decide_eq_true h0
    clear h6
    go_enter Tryz.func37, Tryz.ntmps37
    go_wp2_with fail
    refine (HS.out.fail 1).mono ?_
    rintro en w2 ⟨rfl, h3, h4, h5⟩
    have H3 := Aside0.mk h3
    have H5 := Aside0.mk h5
    clear h3 h4 h5
    go_wp2_with fail
    go_ret
    exact ⟨rfl, by rw [why0, if_neg H6.out]; exact H3.out, HB.out.trans H5.out⟩
  · by_cases h1 : 6 < d
    · have h6 : ¬ (0 ≤ d ∧ d ≤ 6) := by omega
      have H6 := Aside0.mk h6
      have h0' : decide (d < 0) = false := decide_eq_false h0
      have h1' : decide (6 < d) = true := decide_eq_true h1
      clear h6
      go_enter Tryz.func37, Tryz.ntmps37
      go_wp2_with fail
      refine (HS.out.fail 1).mono ?_
      rintro en w2 ⟨rfl, h3, h4, h5⟩
      have H3 := Aside0.mk h3
      have H5 := Aside0.mk h5
      clear h3 h4 h5
      go_wp2_with fail
      go_ret
      exact ⟨rfl, by rw [why0, if_neg H6.out]; exact H3.out, HB.out.trans H5.out⟩
    · have h6 : 0 ≤ d ∧ d ≤ 6 := by omega
      have H6 := Aside0.mk h6
      have h0' : decide (d < 0) = false := decide_eq_false h0
      have h1' : decide (6 < d) = false := decide_eq_false h1
      clear h6
      go_enter Tryz.func37, Tryz.ntmps37
      go_wp2_with fail
      go_ret
      exact ⟨rfl, by rw [why0, if_pos H6.out]; exact HS.out, HB.out⟩

/-- A sheet and the box that its variable is. -/
structure St (w : World) (base g h : Nat) (d y : Int) (rows : List (List ByteArray)) : Prop where
  sh : Sh w base g d y rows
  box : w.heap[h]? = some (.cells #[.pointer (some ⟨g, 0, none⟩)] 74 (0, 0))
  laid : Laid w
theorem St.below {w W : World} {base g h : Nat} {d y : Int} {rows : List (List ByteArray)} (H : St w base g h d y rows) (hb : Below w.heap.size w W) : St W base g h d y rows :=
  ⟨H.sh.below hb, (hb.block h (blk_lt H.box)).trans H.box, H.laid.below hb⟩
theorem Laid.kt {w W : World} {base : Nat} (h : Laid w) (hb : Below base w W) (h16 : 7 ≤ base) : Laid W :=
  ⟨var?_below hb globPow (by omega) h.pow, by
    obtain ⟨m, hm⟩ := h.maxLen
    exact ⟨m, (hb.cell (p := ⟨0, 0, none⟩) (by show 0 < _; omega)).trans hm⟩, Nat.le_trans h.low hb.size⟩
theorem St.step {w W : World} {base g h : Nat} {d y y' : Int} {rows rows' : List (List ByteArray)} (H : St w base g h d y rows) (h16 : 7 ≤ base) (hs : Sh W base g d y' rows') (hk : KT w W) (hb : Below base w W) : St W base g h d y' rows' :=
  ⟨hs, hk.keep h _ _ H.box (by decide) (by decide), H.laid.kt hb h16⟩

/-- A side of a row: nothing where it is 0. -/
def sideText (a : Int) (d : Nat) : ByteArray := if a = 0 then ⟨#[]⟩ else moneyText a d
theorem side_calls {w : World} {base g h : Nat} {d : Int} {rows : List (List ByteArray)} (H : St w base g h d 0 rows) (h16 : 7 ≤ base) (hd0 : 0 ≤ d) (hd1 : d ≤ 6) (a : Int) (ha0 : 0 ≤ a) (ha1 : a ≤ 9223372036854775807) :
    Calls Tryz.prog 41 #[.int .i64 a, .pointer (some ⟨h, 0, none⟩)] w fun en w' =>
      en = .returned (.string (sideText a d.toNat)) ∧ St w' base g h d 0 rows ∧ KT w w' ∧ Below base w w' := by
  have hm : L_Print.f a d = some (moneyText a d.toNat, 0) := by
    unfold L_Print.f
    rw [if_neg (by omega), if_neg (by omega), if_pos (by unfold isI64; omega)]
  have hbx : w.cell? ⟨h, 0, none⟩ = some (.pointer (some ⟨g, 0, none⟩)) := blk_cell H.box 0
  have HM := Aside0.mk hm
  have HS := Aside0.mk H
  have H16 := Aside0.mk h16
  clear hm H h16 hd0 hd1 ha0 ha1
  by_cases h0 : a = 0
  · subst h0
    go_enter Tryz.func41, Tryz.ntmps41
    go_wp2_with fail
    go_ret
    exact ⟨rfl, HS.out, .refl _, .refl _ _⟩
  · have hA := Aside0.mk h0
    have h0' : (a == 0) = false := beq_eq_false_iff_ne.2 h0
    clear h0
    go_enter Tryz.func41, Tryz.ntmps41
    go_wp2_with fail
    refine (HS.out.sh.amount HS.out.laid HM.out).mono ?_
    rintro en w2 ⟨rfl, h3, h4, h5⟩
    have H3 := Aside0.mk h3
    have H4 := Aside0.mk h4
    have H5 := Aside0.mk h5
    clear h3 h4 h5
    go_wp2_with fail
    go_ret
    exact ⟨by rw [sideText, if_neg hA.out]; rfl, HS.out.step H16.out (by simpa [after] using H3.out) H4.out H5.out, H4.out, H5.out⟩
theorem behind_calls (k : Int) (w : World) :
    Calls Tryz.prog 47 #[.int .i64 k] w fun en w' =>
      en = .returned (.func (.func 105) #[] #[.pointer (some ⟨w.heap.size, 0, none⟩)]) ∧ w'.cell? ⟨w.heap.size, 0, none⟩ = some (.int .i64 k) ∧ w.heap.size < w'.heap.size ∧ Below w.heap.size w w' := by
  go_enter Tryz.func47, Tryz.ntmps47
  go_wp2_with fail
  go_ret
  exact ⟨rfl, by simp [go_sem, World.cell?_alloc_new], by rw [show ∀ o : Obj, (w.alloc o).heap.size = w.heap.size + 1 from fun o => Array.size_push ..]; omega, below_alloc (Below.refl _ _) _⟩
theorem right_calls (k : Int) (q : Nat) (c : Nat) (w : World) (hc : w.cell? ⟨q, 0, none⟩ = some (.int .i64 k)) :
    Calls Tryz.prog 105 #[.int .i64 (c : Int), .pointer (some ⟨q, 0, none⟩)] w fun en w' => en = .returned (.bool (decide (k ≤ (c : Int)))) ∧ w = w' := by
  go_enter Tryz.func105, Tryz.ntmps105
  go_wp2_with fail
  go_ret
  exact ⟨rfl, rfl⟩
end Go.Proofs.YtmimninicegjcaaGreatDoor
/- sheet.Trial's text at its end: Trial$2 and end. -/
namespace Go.Proofs.YtmimninicegjcaaGreatDoor
open Go.RowKit Go.Shelf Go.Lib Go.Proofs.YtmimninicegjcaaGreatDoorW.PrintWords Go.Proofs.YtmimninicegjcaaGreatDoorW.PrintLast Go.Proofs.YtmimninicegjcaaGreatDoorW.PrintMore
set_option linter.unusedVariables false
set_option linter.unusedSimpArgs false
def fromOne (c : Nat) : Bool := decide ((1 : Int) ≤ (c : Int))
structure GridFits (R : Nat → Bool) (rows : List (List ByteArray)) : Prop where
  n : rows.length ≤ 4194304
  m : ∀ r ∈ rows, r.length ≤ 4194304
  w : ∀ c, wid rows c ≤ 4194304
  g : ∀ k, (gridTo R rows k).length ≤ 70368744177664
theorem func_run {P : Program} {f : FuncId} {fn : Func} (hf : P.funcs[f]? = some fn) (hname : (fn.name == "runtime.NumGoroutine") = false) (hb : fn.body.isSome = true) : ∀ args w, (callFunc f args).run P w = .ok (.enter f args) w := fun args w => enters_ hf hname hb args w
set_option maxRecDepth 100000 in
set_option maxHeartbeats 2000000 in
theorem text_calls {w : World} {base g h : Nat} {d y : Int} {rows : List (List ByteArray)} (H : St w base g h d y rows) (hf : GridFits fromOne rows) :
    Calls Tryz.prog 45 #[.pointer (some ⟨h, 0, none⟩)] w fun en w' =>
      en = .returned (.string ⟨(gridText fromOne rows).toArray⟩) ∧ Below w.heap.size w w' := by
  have hbx : w.cell? ⟨h, 0, none⟩ = some (.pointer (some ⟨g, 0, none⟩)) := blk_cell H.box 0
  obtain ⟨vr, h1, h2⟩ := H.sh.ex
  obtain ⟨A, c, rfl, hlc, hC⟩ := Kd.R_reads h2
  have hrw : w.cell? ⟨g, 2, none⟩ = some (.slice A rows.length c) := blk_cell h1 2
  have HH := Aside0.mk (blk_lt H.box)
  have HG := Aside0.mk (blk_lt h1)
  have hgrid : ∀ (W : World) (q : Nat), Below w.heap.size w W → W.cell? ⟨q, 0, none⟩ = some (.int .i64 1) → q < W.heap.size →
      Calls Tryz.prog 46 #[.slice A rows.length c, .func (.func 105) #[] #[.pointer (some ⟨q, 0, none⟩)]] W fun e w' =>
      e = .returned (.string ⟨(gridText fromOne rows).toArray⟩) ∧ Below W.heap.size W w' := fun W q hb hq hlt =>
    grid_calls A c rows 105 q fromOne W (Kd.C_below hC hb) hlc hf.n hf.m hf.w hf.g (func_run (fn := Tryz.f105) (by kernel_rfl) (by kernel_rfl) (by kernel_rfl)) (fun j W2 hW => right_calls 1 q j W2 ((hW.cell hlt).trans hq))
  have HGR := Aside0.mk hgrid
  clear H h1 h2 hC hlc hf hgrid
  go_enter Tryz.func45, Tryz.ntmps45
  go_wp2_with fail
  go_region_held3 (fun w' => w'.cell? ⟨h, 0, none⟩ = some (.pointer (some ⟨g, 0, none⟩)) ∧ w'.cell? ⟨g, 2, none⟩ = some (.slice A rows.length c))
    (first | exact ⟨hbx, hrw⟩ | exact ⟨(hb3.cell HH.out).trans hbx, (hb3.cell HG.out).trans hrw⟩ | exact ⟨(hb0.cell HH.out).trans hbx, (hb0.cell HG.out).trans hrw⟩)
    (first
      | (go_at_call 47; refine (behind_calls 1 _).mono ?_; rintro e w1 ⟨rfl, hq, hlt, hb⟩; have hb0 : Below w.heap.size w w1 := ⟨hb.os, hb.tape, hb.output, hb.size, hb.block⟩)
      | (go_at_call 46; refine (HGR.out _ _ hb0 hq hlt).mono ?_; rintro e w2 ⟨rfl, hb2⟩; have hb3 : Below w.heap.size w w2 := below_step hb0 hb2))
  go_wp2_with fail
  go_ret
  exact ⟨rfl, hb3⟩
theorem end_calls {w : World} {base g h : Nat} {d : Int} {rows : List (List ByteArray)} (H : St w base g h d 0 rows) (hf : GridFits fromOne rows) :
    Calls Tryz.prog 44 #[.pointer (some ⟨g, 0, none⟩), .func (.func 45) #[] #[.pointer (some ⟨h, 0, none⟩)]] w fun en w' =>
      en = .returned (.tuple #[.string ⟨(gridText fromOne rows).toArray⟩, .int .i64 0]) ∧ Below w.heap.size w w' := by
  obtain ⟨vr, h1, h2⟩ := H.sh.ex
  have hy : w.cell? ⟨g, 1, none⟩ = some (.int .i64 0) := blk_cell h1 1
  have HH := Aside0.mk H
  have HF := Aside0.mk hf
  clear H hf h1 h2
  have hrun := func_run (fn := Tryz.f45) (P := Tryz.prog) (f := 45) (by kernel_rfl) (by kernel_rfl) (by kernel_rfl)
  go_enter Tryz.func44, Tryz.ntmps44
  go_wp2_with fail
  refine (text_calls HH.out HF.out).mono ?_
  rintro en w1 ⟨rfl, hb⟩
  have HB := Aside0.mk hb
  clear hb
  go_wp2_with fail
  go_ret2
  exact ⟨rfl, HB.out⟩
end Go.Proofs.YtmimninicegjcaaGreatDoor
/- chart.Good and money.Sum, in the form that the printed texts take. -/
namespace Go.Proofs.YtmimninicegjcaaGreatDoor
open Go.RowKit Go.Shelf Go.Lib Go.Proofs.YtmimninicegjcaaGreatDoorW.PrintWords Go.Proofs.YtmimninicegjcaaGreatDoorW.PrintLast
set_option linter.unusedVariables false
set_option linter.unusedSimpArgs false

/-! ### chart.part, as a plain function -/
def okByte (c : Int) : Bool := decide (65 ≤ c ∧ c ≤ 90) || decide (97 ≤ c ∧ c ≤ 122) || decide (48 ≤ c ∧ c ≤ 57) || decide (c = 45)
def partOk (s : ByteArray) : Bool := decide (1 ≤ s.size ∧ s.size ≤ 16) && decide (65 ≤ bt s 0 ∧ bt s 0 ≤ 90) && (List.range s.size).all fun i => okByte (bt s i)
theorem okByte_cases (c : Int) (A B : Option Bool) :
    (if c ≥ 65 then (if c ≤ 90 then A else (if c ≥ 97 then (if c ≤ 122 then A else (if c ≥ 48 then (if c ≤ 57 then A else (if c = 45 then A else B)) else (if c = 45 then A else B))) else (if c ≥ 48 then (if c ≤ 57 then A else (if c = 45 then A else B)) else (if c = 45 then A else B)))) else (if c ≥ 97 then (if c ≤ 122 then A else (if c ≥ 48 then (if c ≤ 57 then A else (if c = 45 then A else B)) else (if c = 45 then A else B))) else (if c ≥ 48 then (if c ≤ 57 then A else (if c = 45 then A else B)) else (if c = 45 then A else B)))) = if okByte c = true then A else B := by
  unfold okByte
  by_cases h1 : c ≥ 65 <;> by_cases h2 : c ≤ 90 <;> by_cases h3 : c ≥ 97 <;> by_cases h4 : c ≤ 122 <;> by_cases h5 : c ≥ 48 <;> by_cases h6 : c ≤ 57 <;> by_cases h7 : c = 45 <;> simp [h1, h2, h3, h4, h5, h6, h7] <;> omega
theorem part_loop (s : ByteArray) (hs : s.size ≤ 16) (d : Nat) : ∀ (i k : Nat), i + d = s.size → d < k →
    QT.chart_part.l0 k s (s.size : Int) i = some ((List.range d).all fun j => okByte (bt s ((i + j : Nat) : Int))) := by
  induction d with
  | zero =>
    intro i k hi hk
    obtain ⟨k, rfl⟩ : ∃ m, k = m + 1 := ⟨k - 1, by omega⟩
    simp only [QT.chart_part.l0]
    rw [if_neg (by omega)]
    simp
  | succ d ih =>
    intro i k hi hk
    obtain ⟨k, rfl⟩ : ∃ m, k = m + 1 := ⟨k - 1, by omega⟩
    simp only [QT.chart_part.l0]
    rw [if_pos (by omega), if_pos (by omega), if_pos (by omega), okByte_cases, show wrap64 ((i : Int) + 1) = ((i + 1 : Nat) : Int) by unfold wrap64; omega, ih (i + 1) k (by omega) (by omega)]
    rw [List.range_succ_eq_map, List.all_cons, List.all_map]
    have e : ∀ j : Nat, i + 1 + j = i + (j + 1) := fun j => by omega
    simp only [Function.comp_def, e, Nat.add_zero]
    by_cases hb : okByte (bt s (i : Int)) = true
    · rw [if_pos hb, hb]; simp
    · rw [if_neg hb]
      rw [Bool.not_eq_true] at hb
      rw [hb]; simp
theorem part_some (s : ByteArray) : QT.chart_part.f 20 s = some (partOk s) := by
  unfold QT.chart_part.f partOk
  by_cases h1 : (s.size : Int) < 1
  · rw [if_pos h1]; simp only [QT.chart_part.j0]; rw [if_pos trivial]; simp; omega
  · rw [if_neg h1]
    by_cases h2 : (s.size : Int) > 16
    · rw [if_pos h2]; simp only [QT.chart_part.j0]; rw [if_pos trivial]; simp; omega
    · rw [if_neg h2, if_pos (by omega)]
      by_cases h3 : bt s 0 < 65
      · rw [if_pos h3]; simp only [QT.chart_part.j0]; rw [if_pos trivial]; simp; omega
      · rw [if_neg h3]; simp only [QT.chart_part.j0]
        by_cases h4 : bt s 0 > 90
        · rw [if_pos (by simpa using h4)]; simp; omega
        · rw [if_neg (by simpa using h4)]
          have hl := part_loop s (by omega) s.size 0 19 (by omega) (by omega)
          rw [show ((0 : Nat) : Int) = 0 from rfl] at hl
          rw [hl]
          have a1 : decide (1 ≤ s.size ∧ s.size ≤ 16) = true := by simp; omega
          have a2 : decide (65 ≤ bt s 0 ∧ bt s 0 ≤ 90) = true := by simp; omega
          rw [a1, a2]
          simp

/-! ### the walks -/
theorem GoodClosure_calls (s : ByteArray) (w : World) :
    Calls Tryz.prog 95 #[.string s] w fun e w' => e = .returned (.bool (!partOk s)) ∧ Drawn0 w w' := by
  go_enter Tryz.func95, Tryz.ntmps95
  go_wp2_with (go_at_call 96; refine (QT.chart_part.calls 20 s _ _ (part_some s)).mono ?_; rintro e w1 ⟨rfl, nd, rfl⟩)
  go_ret
  exact ⟨rfl, Drawn0.step (Drawn0.refl _) _⟩
/-- The place of the first that is bad; -1: there is none. -/
def firstBad : List ByteArray → Nat → Int
  | [], _ => -1
  | s :: l, i => if partOk s = true then firstBad l (i + 1) else i
def FirstBad (ss : List ByteArray) (v : Value) : Prop := v = .int .i64 (firstBad ss 0)
theorem IndexFunc_calls (b : Nat) (ss : List ByteArray) (hl : ss.length ≤ 1000) (w : World) (hc : ∀ j, (h : j < ss.length) → w.cell? ⟨b, j, none⟩ = some (.string ss[j])) :
    Calls Tryz.prog 145 #[.slice (some ⟨b, 0, none⟩) ss.length ss.length, .func (.func 95) #[] #[]] w fun e w' =>
      e = .returned (.int .i64 (firstBad ss 0)) ∧ Drawn0 w w' := by
  have HC := Aside0.mk hc
  clear hc
  go_enter Tryz.func145, Tryz.ntmps145
  go_wp2
  go_loopw [8] (fun v wr => ∃ k : Nat, v = .int .i64 k ∧ k ≤ ss.length ∧ firstBad ss 0 = firstBad (ss.drop k) k ∧ Drawn0 w wr) (fun v _ => ss.length - (RowKit.intOf v).toNat)
  case atStart => exact ⟨0, rfl, Nat.zero_le _, by simp, Drawn0.refl _⟩
  case round =>
    obtain ⟨k, rfl, hk, hf, ⟨m, rfl⟩⟩ := hrel
    have HF := Aside0.mk hf
    clear hf
    by_cases hlt : k < ss.length
    · have hcell := HC.out k hlt
      have i1 : (k : Int) < (ss.length : Int) := by omega
      have hd : ss.drop k = ss[k] :: ss.drop (k + 1) := List.drop_eq_getElem_cons hlt
      have HD := Aside0.mk hd
      clear hd
      generalize hs : ss[k] = s at *
      have HS := Aside0.mk hs
      clear hs
      by_cases hp : partOk s = true
      · have HP := Aside0.mk hp
        clear hp
        go_wp2_with (refine (GoodClosure_calls _ _).mono ?_; rintro e w1 ⟨rfl, nd, rfl⟩; rw [HP.out])
        go_roundw
        case rel => exact ⟨k + 1, by go_num, hlt, by rw [HF.out, HD.out, firstBad, if_pos HP.out], Drawn0.step (Drawn0.refl _) _⟩
        case measure => simp [RowKit.intOf]; omega
      · have HP := Aside0.mk (Bool.not_eq_true _ ▸ hp : partOk s = false)
        clear hp
        go_wp2_with (refine (GoodClosure_calls _ _).mono ?_; rintro e w1 ⟨rfl, nd, rfl⟩; rw [HP.out])
        go_ret
        exact ⟨by rw [HF.out, HD.out, firstBad, HP.out]; rfl, Drawn0.step (Drawn0.refl _) _⟩
    · have hk' : k = ss.length := by omega
      subst hk'
      go_wp2
      go_ret
      exact ⟨by rw [HF.out, List.drop_length]; rfl, Drawn0.step (Drawn0.refl _) _⟩
theorem ContainsFunc_calls (b : Nat) (ss : List ByteArray) (hl : ss.length ≤ 1000) (w : World) (hc : ∀ j, (h : j < ss.length) → w.cell? ⟨b, j, none⟩ = some (.string ss[j])) :
    Calls Tryz.prog 94 #[.slice (some ⟨b, 0, none⟩) ss.length ss.length, .func (.func 95) #[] #[]] w fun e w' =>
      e = .returned (.bool (decide (0 ≤ firstBad ss 0))) ∧ Drawn0 w w' := by
  have HC := Aside0.mk hc
  clear hc
  go_enter Tryz.func94, Tryz.ntmps94
  go_wp2_with (refine (IndexFunc_calls b ss hl _ HC.out).mono ?_; rintro e w1 ⟨rfl, nd, rfl⟩)
  go_ret
  exact ⟨rfl, Drawn0.step (Drawn0.refl _) _⟩
theorem firstBad_all (ss : List ByteArray) : ∀ i : Nat, decide (0 ≤ firstBad ss i) = !(ss.all partOk) := by
  induction ss with
  | nil => intro i; simp [firstBad]
  | cons s l ih =>
    intro i
    unfold firstBad
    by_cases hp : partOk s = true
    · rw [if_pos hp, ih]; simp [hp]
    · rw [if_neg hp]; simp [hp]

def colon : ByteArray := ⟨#[58]⟩
def partsOf (s : ByteArray) : List ByteArray := Lib.splitB colon 0 (Lib.countB s colon) s
/-- Can an account have the name? -/
def goodName (s : ByteArray) : Bool := decide (s.size ≤ 102) && (decide ((partsOf s).length ≤ 6) && (partsOf s).all partOk)
theorem partsOf_length (s : ByteArray) : (partsOf s).length = Lib.countB s colon + 1 := Lib.splitB_all colon (by decide) 0 _ s rfl
theorem partsOf_le (s : ByteArray) : (partsOf s).length ≤ s.size + 1 := by
  rw [partsOf_length]
  have := Lib.countB_le colon (by decide) s.size s (Nat.le_refl _)
  omega
set_option maxHeartbeats 1000000 in
theorem Good_long (s : ByteArray) (h : 102 < s.size) (w : World) :
    Calls Tryz.prog 38 #[.string s] w fun e w' => e = .returned (.bool false) ∧ w = w' := by
  have h1 : (102 : Int) < (s.size : Int) := by omega
  go_enter Tryz.func38, Tryz.ntmps38
  go_wp2_with fail
  go_ret
  exact ⟨rfl, rfl⟩
set_option maxHeartbeats 1000000 in
theorem Good_short (s : ByteArray) (h : s.size ≤ 102) (w : World) (hL : Laid w) :
    Calls Tryz.prog 38 #[.string s] w fun e w' => e = .returned (.bool (decide ((partsOf s).length ≤ 6) && (partsOf s).all partOk)) ∧ Below w.heap.size w w' := by
  have h1 : (s.size : Int) ≤ 102 := by omega
  obtain ⟨m, hm⟩ := hL.maxLen
  have hS := Tryz.strings_Split s colon m w (by omega) hm (by decide)
  rw [← partsOf_length] at hS
  have hle := partsOf_le s
  have hps : Lib.splitB colon 0 (Lib.countB s colon) s = partsOf s := rfl
  rw [hps] at hS
  generalize hpp : partsOf s = ss at *
  have hss : ss.length ≤ 1000 := by omega
  clear hps hpp hle
  have HS := Aside0.mk hS
  clear hS hm hL h
  have hcell : ∀ (m : Nat) (j : Nat) (h : j < ss.length), (w.alloc (.cells (ss.map Value.string).toArray 9)).cell? ⟨w.heap.size, j, none⟩ = some (.string ss[j]) := fun _ j h => by
    rw [World.cell?_alloc_new]
    simp [List.getElem?_eq_getElem h]
  have HCL := Aside0.mk hcell
  clear hcell
  by_cases h6 : ss.length ≤ 6
  · have i6 : decide ((ss.length : Int) ≤ 6) = true := decide_eq_true (by omega)
    have d6 : decide (ss.length ≤ 6) = true := decide_eq_true h6
    have D6 := Aside0.mk d6
    have HSS := Aside0.mk hss
    clear d6 h6 hss
    go_enter Tryz.func38, Tryz.ntmps38
    go_wp2_with fail
    refine HS.out.mono ?_
    rintro e w1 ⟨rfl, rfl⟩
    go_wp2_with fail
    refine (ContainsFunc_calls _ ss HSS.out _ (HCL.out 0)).mono ?_
    rintro e w1 ⟨rfl, nd, rfl⟩
    rw [firstBad_all]
    go_wp2_with fail
    go_ret
    exact ⟨by rw [D6.out]; simp, by repeat (first | exact Below.refl _ _ | apply pw_below_drewN | apply below_alloc)⟩
  · have i6 : decide ((ss.length : Int) ≤ 6) = false := decide_eq_false (by omega)
    have d6 : decide (ss.length ≤ 6) = false := decide_eq_false h6
    have D6 := Aside0.mk d6
    clear d6 h6 hss
    go_enter Tryz.func38, Tryz.ntmps38
    go_wp2_with fail
    refine HS.out.mono ?_
    rintro e w1 ⟨rfl, rfl⟩
    go_wp2_with fail
    go_ret
    exact ⟨by rw [D6.out]; rfl, by repeat (first | exact Below.refl _ _ | apply pw_below_drewN | apply below_alloc)⟩
def L_Good.f (a0 : ByteArray) : Option Bool := some (goodName a0)
theorem L_Good.calls (a0 : ByteArray) (r : Bool) (w : World) (hL : Laid w) (h : L_Good.f a0 = some r) :
    Calls Tryz.prog 38 #[.string a0] w fun e w' => e = .returned (.bool r) ∧ Below w.heap.size w w' := by
  obtain rfl := Option.some.inj h
  unfold goodName
  by_cases hs : a0.size ≤ 102
  · refine (Good_short a0 hs w hL).mono ?_
    rintro e w' ⟨rfl, hb⟩
    exact ⟨by rw [decide_eq_true hs]; rfl, hb⟩
  · refine (Good_long a0 (by omega) w).mono ?_
    rintro e w' ⟨rfl, rfl⟩
    exact ⟨by rw [decide_eq_false hs]; rfl, Below.refl _ _⟩
end Go.Proofs.YtmimninicegjcaaGreatDoor
/- sheet.Trial's two rows of amounts: what stands while both grow. -/
namespace Go.Proofs.YtmimninicegjcaaGreatDoor
open Go.RowKit Go.Shelf Go.Lib Go.Proofs.YtmimninicegjcaaGreatDoorW.PrintWords Go.Proofs.YtmimninicegjcaaGreatDoorW.PrintLast Go.Proofs.YtmimninicegjcaaGreatDoorW.PrintMore
set_option linter.unusedVariables false
abbrev Col := QT.S31
theorem info_i64 : (Tryz.prog.info? 2).map (fun i => (i.zero, i.size, i.bytes)) = some (some (.int .i64 0), 1, 8) := by kernel_rfl
structure Two (w0 : World) (gb h : Nat) (d y : Int) (c : Col) (v9 v10 : Value) (xs ys : List Int) (W : World) : Prop where
  r9 : Kd.R (Kd.int .i64) 2 W w0.heap.size (fun b => some b ≠ v10.ownBlock) v9 xs
  r10 : Kd.R (Kd.int .i64) 2 W w0.heap.size (fun b => some b ≠ v9.ownBlock) v10 ys
  st : St W w0.heap.size w0.heap.size h d y []
  blk : W.heap[gb]? = some (.cells #[.string c.f0, .int .i64 c.f1, .int .i64 c.f2] 31 (0, 0))
  bel : Below w0.heap.size w0 W
variable {w0 W w1 : World} {gb h base g : Nat} {d y : Int} {c : Col} {v9 v10 v1 : Value} {xs ys : List Int} {p : Int} {rows : List (List ByteArray)}
theorem Two.alloc (H : Two w0 gb h d y c v9 v10 xs ys W) (o : Obj) : Two w0 gb h d y c v9 v10 xs ys (W.alloc o) :=
  ⟨Kd.R_alloc H.r9 o, Kd.R_alloc H.r10 o, H.st.below (below_alloc (Below.refl _ _) o), blk_alloc H.blk o, below_step H.bel (below_alloc (Below.refl _ _) o)⟩
theorem Two.drew (H : Two w0 gb h d y c v9 v10 xs ys W) : Two w0 gb h d y c v9 v10 xs ys W.drew :=
  ⟨Kd.R_drew H.r9, Kd.R_drew H.r10, H.st.below (below_drew (Below.refl _ _)), H.blk, below_step H.bel (below_drew (Below.refl _ _))⟩
theorem Two.drewN (H : Two w0 gb h d y c v9 v10 xs ys W) (n : Nat) : Two w0 gb h d y c v9 v10 xs ys (W.drewN n) :=
  ⟨Kd.R_drewN H.r9 n, Kd.R_drewN H.r10 n, H.st.below (pw_below_drewN (Below.refl _ _) n), H.blk, below_step H.bel (pw_below_drewN (Below.refl _ _) n)⟩
theorem Sh.grown {u : Value} (H : Sh W base g d y rows) (hty : ∀ k, u.ownBlock = some k → ∃ cells, W.heap[k]? = some (.cells cells 2 (0, 0))) (hg : W.grownBy w1 u.ownBlock) : Sh w1 base g d y rows := by
  obtain ⟨vr, h1, h2⟩ := H.ex
  refine ⟨⟨vr, blk_grown h1 hg (fun he => ?_), Kd.R_over' h2 hty (by decide) hg⟩, H.ge⟩
  obtain ⟨cells, hc⟩ := hty g he.symm
  rw [h1] at hc
  injection hc with hc
  injection hc with _ hc
  exact absurd hc (by decide)
theorem St.grown {u : Value} (H : St W base g h d y rows) (h16 : 7 ≤ base) (hty : ∀ k, u.ownBlock = some k → ∃ cells, W.heap[k]? = some (.cells cells 2 (0, 0))) (hg : W.grownBy w1 u.ownBlock) (hb : ∀ k, u.ownBlock = some k → base ≤ k) : St w1 base g h d y rows := by
  refine ⟨H.sh.grown hty hg, blk_grown H.box hg (fun he => ?_), H.laid.kt ⟨hg.os, hg.tape, hg.output, hg.size, fun k hk => hg.block k (Nat.lt_of_lt_of_le hk H.sh.base_le) (fun he => by have := hb k he.symm; omega)⟩ h16⟩
  obtain ⟨cells, hc⟩ := hty h he.symm
  rw [H.box] at hc
  injection hc with hc
  injection hc with _ hc
  exact absurd hc (by decide)
theorem blk_typed {u : Value} {g t : Nat} {cs : Array Value} (hk : W.heap[g]? = some (.cells cs t (0, 0))) (ht : t ≠ 2) (hty : ∀ k, u.ownBlock = some k → ∃ cells, W.heap[k]? = some (.cells cells 2 (0, 0))) (hg : W.grownBy w1 u.ownBlock) : w1.heap[g]? = some (.cells cs t (0, 0)) :=
  blk_grown hk hg (fun he => by
    obtain ⟨cells, hc⟩ := hty g he.symm
    rw [hk] at hc
    injection hc with hc
    injection hc with _ hc
    exact ht hc)
theorem Two.grow9 (H : Two w0 gb h d y c v9 v10 xs ys W) (h16 : 7 ≤ w0.heap.size) (ho : Kd.R (Kd.int .i64) 2 w1 w0.heap.size (fun b => some b ≠ v10.ownBlock) v1 (xs ++ [p])) (hb : Below w0.heap.size w0 w1) (hg : W.grownBy w1 v9.ownBlock)
    (hat : v1.ownBlock = v9.ownBlock ∨ ∃ b, v1.ownBlock = some b ∧ W.heap.size ≤ b) : Two w0 gb h d y c v1 v10 (xs ++ [p]) ys w1 :=
  ⟨ho, Kd.R_mono (Kd.R_after (ok := fun _ => True) (Kd.R_mono H.r10 (fun _ hk => ⟨trivial, hk⟩)) hg hat) (fun _ hk => hk.2), H.st.grown h16 (Kd.R_typed H.r9) hg (Kd.R_base H.r9), blk_typed H.blk (by decide) (Kd.R_typed H.r9) hg, hb⟩
theorem Two.grow10 (H : Two w0 gb h d y c v9 v10 xs ys W) (h16 : 7 ≤ w0.heap.size) (ho : Kd.R (Kd.int .i64) 2 w1 w0.heap.size (fun b => some b ≠ v9.ownBlock) v1 (ys ++ [p])) (hb : Below w0.heap.size w0 w1) (hg : W.grownBy w1 v10.ownBlock)
    (hat : v1.ownBlock = v10.ownBlock ∨ ∃ b, v1.ownBlock = some b ∧ W.heap.size ≤ b) : Two w0 gb h d y c v9 v1 xs (ys ++ [p]) w1 :=
  ⟨Kd.R_mono (Kd.R_after (ok := fun _ => True) (Kd.R_mono H.r9 (fun _ hk => ⟨trivial, hk⟩)) hg hat) (fun _ hk => hk.2), ho, H.st.grown h16 (Kd.R_typed H.r10) hg (Kd.R_base H.r10), blk_typed H.blk (by decide) (Kd.R_typed H.r10) hg, hb⟩
/-- One number in a block of its own, made since base was w1's. -/
structure Lone (g : Nat) (p : Int) (v9 v10 : Value) (W : World) : Prop where
  blk : W.heap[g]? = some (.cells #[.int .i64 p] 2 (0, 0))
  n9 : some g ≠ v9.ownBlock
  n10 : some g ≠ v10.ownBlock
theorem Lone.alloc {v9 v10 : Value} (H : Lone g p v9 v10 W) (o : Obj) : Lone g p v9 v10 (W.alloc o) := ⟨blk_alloc H.blk o, H.n9, H.n10⟩
theorem Lone.drew {v9 v10 : Value} (H : Lone g p v9 v10 W) : Lone g p v9 v10 W.drew := ⟨H.blk, H.n9, H.n10⟩
theorem Lone.new (H : Two w0 gb h d y c v9 v10 xs ys W) (p : Int) : Lone W.heap.size p v9 v10 (W.alloc (.cells #[.int .i64 p] 2 (0, 0))) :=
  ⟨heap_alloc_new _ _, fun he => by have := Kd.R_lt H.r9 _ he.symm; omega, fun he => by have := Kd.R_lt H.r10 _ he.symm; omega⟩
theorem Lone.grow9 (H : Lone g p v9 v10 W) (hg : W.grownBy w1 v9.ownBlock) (hat : v1.ownBlock = v9.ownBlock ∨ ∃ b, v1.ownBlock = some b ∧ W.heap.size ≤ b) : Lone g p v1 v10 w1 :=
  ⟨blk_grown H.blk hg H.n9, fun he => by
    rcases hat with hat | ⟨b, hb, hle⟩
    · rw [hat] at he; exact H.n9 he
    · rw [hb] at he; injection he with he; have := blk_lt H.blk; omega, H.n10⟩
theorem Lone.grow10 (H : Lone g p v9 v10 W) (hg : W.grownBy w1 v10.ownBlock) (hat : v1.ownBlock = v10.ownBlock ∨ ∃ b, v1.ownBlock = some b ∧ W.heap.size ≤ b) : Lone g p v9 v1 w1 :=
  ⟨blk_grown H.blk hg H.n10, H.n9, fun he => by
    rcases hat with hat | ⟨b, hb, hle⟩
    · rw [hat] at he; exact H.n10 he
    · rw [hb] at he; injection he with he; have := blk_lt H.blk; omega⟩
theorem Lone.reads (H : Lone g p v9 v10 W) : ReadsRow (fun (x : Int) cs => cs = [.int .i64 x]) 1 W (some ⟨g, 0, none⟩) 1 [p] := by
  refine ⟨rfl, by simp, fun _ => ⟨_, rfl, fun i x hx => ?_⟩⟩
  have hi : i = 0 := by
    have := (List.getElem?_eq_some_iff.1 hx).1
    simp at this
    exact this
  subst hi
  obtain rfl : p = x := by simpa using hx
  refine ⟨[.int .i64 p], rfl, rfl, fun j u hj => ?_⟩
  have hj0 : j = 0 := by
    have := (List.getElem?_eq_some_iff.1 hj).1
    simp at this
    exact this
  subst hj0
  obtain rfl : Value.int .i64 p = u := by simpa using hj
  exact blk_cell H.blk 0
theorem sz1 {o : Obj} : W.heap.size + 1 = (W.alloc o).heap.size := (Array.size_push ..).symm
theorem Lone.new' (H : Two w0 gb h d y c v9 v10 xs ys W) {p : Int} (hg : g = W.heap.size) : Lone g p v9 v10 (W.alloc (.cells #[.int .i64 p] 2 (0, 0))) := by
  rw [hg]
  exact Lone.new H p
section
variable {ops : Array Oper} {o : Oper} {a : Act} {Q : Exit → Act → World → Prop} {Kc : Act → World → Prop}
theorem Two.step9 (H : Two w0 gb h d y c v9 v10 xs ys W) (HL : Lone g p v9 v10 W) (h16 : 7 ≤ w0.heap.size) (s x : Operand) (hw : Region.wanted o (yielded ops a.tmps) = true)
    (ho : o.op = .call { callee := .builtin .append, args := #[s, x], argTypes := #[78, 78] }) (hs : a.eval s = v9) (hx : a.eval x = .slice (some ⟨g, 0, none⟩) 1 1) (hl : xs.length ≤ 1048576)
    (hk : ∀ v1 w1, Two w0 gb h d y c v1 v10 (xs ++ [p]) ys w1 → (∀ g q, Lone g q v9 v10 W → Lone g q v1 v10 w1) → Kc (a.put o.dst v1) w1) :
    if Region.wanted o (yielded ops a.tmps) = true then Oper.wp Tryz.prog o a W Kc Q else Kc (a.put o.dst undef) W := by
  refine Kd.R_append_rows_step (Kd.int .i64) (Rr := fun (x : Int) cs => cs = [.int .i64 x]) (w0 := w0) w0.heap.size hw s x 78 2 (.int .i64 0) 8 ho Tryz.underlying78 info_i64 rfl (by decide) (by decide)
    v9 xs [p] (some ⟨g, 0, none⟩) 1 1 (fun b => some b ≠ v10.ownBlock) (fun _ => False) hs hx H.r9 HL.reads (fun x cs e => e) (fun _ hk => hk.elim) (Kd.fresh' (Kd.R_lt H.r10)) H.bel H.st.sh.base_le (by omega) ?_
  intro v1 w1 ho1 hb hg hat
  exact hk v1 w1 (H.grow9 h16 ho1 hb hg hat) (fun g q HL => HL.grow9 hg hat)
theorem Two.step10 (H : Two w0 gb h d y c v9 v10 xs ys W) (HL : Lone g p v9 v10 W) (h16 : 7 ≤ w0.heap.size) (s x : Operand) (hw : Region.wanted o (yielded ops a.tmps) = true)
    (ho : o.op = .call { callee := .builtin .append, args := #[s, x], argTypes := #[78, 78] }) (hs : a.eval s = v10) (hx : a.eval x = .slice (some ⟨g, 0, none⟩) 1 1) (hl : ys.length ≤ 1048576)
    (hk : ∀ v1 w1, Two w0 gb h d y c v9 v1 xs (ys ++ [p]) w1 → (∀ g q, Lone g q v9 v10 W → Lone g q v9 v1 w1) → Kc (a.put o.dst v1) w1) :
    if Region.wanted o (yielded ops a.tmps) = true then Oper.wp Tryz.prog o a W Kc Q else Kc (a.put o.dst undef) W := by
  refine Kd.R_append_rows_step (Kd.int .i64) (Rr := fun (x : Int) cs => cs = [.int .i64 x]) (w0 := w0) w0.heap.size hw s x 78 2 (.int .i64 0) 8 ho Tryz.underlying78 info_i64 rfl (by decide) (by decide)
    v10 ys [p] (some ⟨g, 0, none⟩) 1 1 (fun b => some b ≠ v9.ownBlock) (fun _ => False) hs hx H.r10 HL.reads (fun x cs e => e) (fun _ hk => hk.elim) (Kd.fresh' (Kd.R_lt H.r9)) H.bel H.st.sh.base_le (by omega) ?_
  intro v1 w1 ho1 hb hg hat
  exact hk v1 w1 (H.grow10 h16 ho1 hb hg hat) (fun g q HL => HL.grow10 hg hat)
end
theorem Two.at1 (H : Two w0 gb h d y c v9 v10 xs ys W) : W.cell? ⟨gb, 1, none⟩ = some (.int .i64 c.f1) ∧ W.cell? ⟨gb, 2, none⟩ = some (.int .i64 c.f2) := ⟨blk_cell H.blk 1, blk_cell H.blk 2⟩
/-- Both rows stand while their totals are asked. -/
structure Tot (w0 : World) (h : Nat) (d y : Int) (v9 v10 : Value) (xs ys : List Int) (W : World) : Prop where
  r9 : Kd.R (Kd.int .i64) 2 W w0.heap.size (fun _ => True) v9 xs
  r10 : Kd.R (Kd.int .i64) 2 W w0.heap.size (fun _ => True) v10 ys
  st : St W w0.heap.size w0.heap.size h d y []
  bel : Below w0.heap.size w0 W
theorem Tot.at0 (H : Tot w0 h d y v9 v10 xs ys W) : W.cell? ⟨h, 0, none⟩ = some (.pointer (some ⟨w0.heap.size, 0, none⟩)) := blk_cell H.st.box 0
theorem Tot.drew (H : Tot w0 h d y v9 v10 xs ys W) : Tot w0 h d y v9 v10 xs ys W.drew := ⟨Kd.R_drew H.r9, Kd.R_drew H.r10, H.st.below (below_drew (Below.refl _ _)), below_step H.bel (below_drew (Below.refl _ _))⟩
theorem Tot.next {y' : Int} (H : Tot w0 h d y v9 v10 xs ys W) (h16 : 7 ≤ w0.heap.size) (hs : Sh w1 w0.heap.size w0.heap.size d y' []) (hk : KT W w1) (hb : Below w0.heap.size W w1) : Tot w0 h d y' v9 v10 xs ys w1 :=
  ⟨hk.kd H.r9 (by decide), hk.kd H.r10 (by decide), H.st.step h16 hs hk hb, H.bel.trans hb⟩
theorem Tot.total9 {A : Option Addr} {n cp : Nat} (H : Tot w0 h d y (.slice A n cp) v10 xs ys W) (h16 : 7 ≤ w0.heap.size) {v e : Int} (hm : L_Sum.f xs = some (v, e)) :
    Calls Tryz.prog 40 #[.pointer (some ⟨w0.heap.size, 0, none⟩), .slice A n cp] W fun en w' => en = .returned (.int .i64 v) ∧ Tot w0 h d (after y e 11) (.slice A n cp) v10 xs ys w' := by
  obtain ⟨rfl, hc, hC⟩ := Kd.R_reads' H.r9
  refine (H.st.sh.total hC hc hm).mono ?_
  rintro en w' ⟨rfl, hs, hk, hb⟩
  exact ⟨rfl, H.next h16 hs hk hb⟩
theorem Tot.total10 {A : Option Addr} {n cp : Nat} (H : Tot w0 h d y v9 (.slice A n cp) xs ys W) (h16 : 7 ≤ w0.heap.size) {v e : Int} (hm : L_Sum.f ys = some (v, e)) :
    Calls Tryz.prog 40 #[.pointer (some ⟨w0.heap.size, 0, none⟩), .slice A n cp] W fun en w' => en = .returned (.int .i64 v) ∧ Tot w0 h d (after y e 11) v9 (.slice A n cp) xs ys w' := by
  obtain ⟨rfl, hc, hC⟩ := Kd.R_reads' H.r10
  refine (H.st.sh.total hC hc hm).mono ?_
  rintro en w' ⟨rfl, hs, hk, hb⟩
  exact ⟨rfl, H.next h16 hs hk hb⟩
theorem after_comm (y e f : Int) : after (after y e 11) f 11 = after (after y f 11) e 11 := by
  unfold after first1
  repeat' split
  all_goals first | rfl | omega
/-- A row of three texts, just built. -/
theorem lit3 (W : World) (hb : base ≤ W.heap.size) (x y z : ByteArray) :
    Kd.R Kd.string 9 (W.alloc (.cells #[.string x, .string y, .string z] 9 (0, 0))) base (fun _ => True) (.slice (some ⟨W.heap.size, 0, none⟩) 3 3) [x, y, z] := by
  refine ⟨fun _ _ => trivial, [.string x, .string y, .string z], ?_, ?_⟩
  · have h2 := World.ownsRow_lit (base := base) (e := 9) (size := 1) W #[.string x, .string y, .string z] 3 hb (by simp [maxLen]) (by simp)
    exact (by simpa using h2 : (W.alloc (.cells #[.string x, .string y, .string z] 9 (0, 0))).ownsRow base 9 1 (.slice (some ⟨W.heap.size, 0, none⟩) 3 3) 3 [.string x, .string y, .string z])
  · exact Reps.one (show Kd.M Kd.string _ _ _ x [.string x] from rfl) (Reps.one (show Kd.M Kd.string _ _ _ y [.string y] from rfl) (Reps.one (show Kd.M Kd.string _ _ _ z [.string z] from rfl) (Reps.none _ _)))
theorem St.row (H : St W base g h d y rows) (h16 : 7 ≤ base) {A : Option Addr} {n cp : Nat} {r : List ByteArray} (hr : Kd.R Kd.string 9 W base (fun _ => True) (.slice A n cp) r) (hl : rows.length < 5864062014805) :
    Calls Tryz.prog 43 #[.pointer (some ⟨g, 0, none⟩), .slice A n cp] W fun en w' =>
      en = .returned (.tuple #[]) ∧ St w' base g h d y (rows ++ [r]) ∧ KT W w' ∧ Below base W w' := by
  refine (H.sh.row hr hl).mono ?_
  rintro en w' ⟨rfl, hs, hk, hb⟩
  exact ⟨rfl, H.step h16 hs hk hb, hk, hb⟩
/-- A round's own: the sheet, and the row that is at hand. -/
structure Rnd (w0 : World) (gb h : Nat) (d : Int) (c : Col) (rows : List (List ByteArray)) (W : World) : Prop where
  st : St W w0.heap.size w0.heap.size h d 0 rows
  blk : W.heap[gb]? = some (.cells #[.string c.f0, .int .i64 c.f1, .int .i64 c.f2] 31 (0, 0))
  bel : Below w0.heap.size w0 W
theorem Rnd.alloc (H : Rnd w0 gb h d c rows W) (o : Obj) : Rnd w0 gb h d c rows (W.alloc o) := ⟨H.st.below (below_alloc (Below.refl _ _) o), blk_alloc H.blk o, below_step H.bel (below_alloc (Below.refl _ _) o)⟩
theorem Rnd.drew (H : Rnd w0 gb h d c rows W) : Rnd w0 gb h d c rows W.drew := ⟨H.st.below (below_drew (Below.refl _ _)), H.blk, below_step H.bel (below_drew (Below.refl _ _))⟩
theorem Rnd.at4 (H : Rnd w0 gb h d c rows W) : W.cell? ⟨h, 0, none⟩ = some (.pointer (some ⟨w0.heap.size, 0, none⟩)) ∧ W.cell? ⟨gb, 0, none⟩ = some (.string c.f0) ∧ W.cell? ⟨gb, 1, none⟩ = some (.int .i64 c.f1) ∧ W.cell? ⟨gb, 2, none⟩ = some (.int .i64 c.f2) :=
  ⟨blk_cell H.st.box 0, blk_cell H.blk 0, blk_cell H.blk 1, blk_cell H.blk 2⟩
theorem Rnd.side (H : Rnd w0 gb h d c rows W) (h16 : 7 ≤ w0.heap.size) (hd0 : 0 ≤ d) (hd1 : d ≤ 6) (a : Int) (ha0 : 0 ≤ a) (ha1 : a ≤ 9223372036854775807) :
    Calls Tryz.prog 41 #[.int .i64 a, .pointer (some ⟨h, 0, none⟩)] W fun en w' => en = .returned (.string (sideText a d.toNat)) ∧ Rnd w0 gb h d c rows w' := by
  refine (side_calls H.st h16 hd0 hd1 a ha0 ha1).mono ?_
  rintro en w' ⟨rfl, hs, hk, hb⟩
  exact ⟨rfl, hs, hk.keep _ _ _ H.blk (by decide) (by decide), H.bel.trans hb⟩
theorem Rnd.row (H : Rnd w0 gb h d c rows W) (h16 : 7 ≤ w0.heap.size) (x y z : ByteArray) (hl : rows.length ≤ 1048577) :
    Calls Tryz.prog 43 #[.pointer (some ⟨w0.heap.size, 0, none⟩), .slice (some ⟨W.heap.size, 0, none⟩) 3 3] (W.alloc (.cells #[.string x, .string y, .string z] 9 (0, 0))) fun en w' =>
      en = .returned (.tuple #[]) ∧ Rnd w0 gb h d c (rows ++ [[x, y, z]]) w' := by
  refine ((H.alloc _).st.row h16 (lit3 W H.bel.size x y z) (by omega)).mono ?_
  rintro en w' ⟨rfl, hs, hk, hb⟩
  exact ⟨rfl, hs, hk.keep _ _ _ (H.alloc _).blk (by decide) (by decide), (H.alloc _).bel.trans hb⟩
/-- At the end: the sheet alone. -/
structure Fin3 (w0 : World) (h : Nat) (d : Int) (rows : List (List ByteArray)) (W : World) : Prop where
  st : St W w0.heap.size w0.heap.size h d 0 rows
  bel : Below w0.heap.size w0 W
theorem Fin3.alloc (H : Fin3 w0 h d rows W) (o : Obj) : Fin3 w0 h d rows (W.alloc o) := ⟨H.st.below (below_alloc (Below.refl _ _) o), below_step H.bel (below_alloc (Below.refl _ _) o)⟩
theorem Fin3.drew (H : Fin3 w0 h d rows W) : Fin3 w0 h d rows W.drew := ⟨H.st.below (below_drew (Below.refl _ _)), below_step H.bel (below_drew (Below.refl _ _))⟩
theorem Fin3.at0 (H : Fin3 w0 h d rows W) : W.cell? ⟨h, 0, none⟩ = some (.pointer (some ⟨w0.heap.size, 0, none⟩)) := blk_cell H.st.box 0
theorem Fin3.amount (H : Fin3 w0 h d rows W) (h16 : 7 ≤ w0.heap.size) {a : Int} {t : ByteArray} (hm : L_Print.f a d = some (t, 0)) :
    Calls Tryz.prog 42 #[.pointer (some ⟨w0.heap.size, 0, none⟩), .int .i64 a] W fun en w' => en = .returned (.string t) ∧ Fin3 w0 h d rows w' := by
  refine (H.st.sh.amount H.st.laid hm).mono ?_
  rintro en w' ⟨rfl, hs, hk, hb⟩
  exact ⟨rfl, H.st.step h16 (by simpa [after] using hs) hk hb, H.bel.trans hb⟩
theorem Fin3.row (H : Fin3 w0 h d rows W) (h16 : 7 ≤ w0.heap.size) (x y z : ByteArray) (hl : rows.length ≤ 1048577) :
    Calls Tryz.prog 43 #[.pointer (some ⟨w0.heap.size, 0, none⟩), .slice (some ⟨W.heap.size, 0, none⟩) 3 3] (W.alloc (.cells #[.string x, .string y, .string z] 9 (0, 0))) fun en w' =>
      en = .returned (.tuple #[]) ∧ Fin3 w0 h d (rows ++ [[x, y, z]]) w' := by
  refine ((H.alloc _).st.row h16 (lit3 W H.bel.size x y z) (by omega)).mono ?_
  rintro en w' ⟨rfl, hs, hk, hb⟩
  exact ⟨rfl, hs, (H.alloc _).bel.trans hb⟩
end Go.Proofs.YtmimninicegjcaaGreatDoor
/- sheet.Trial. -/
namespace Go.Proofs.YtmimninicegjcaaGreatDoor
open Go.RowKit Go.Shelf Go.Lib Go.Proofs.YtmimninicegjcaaGreatDoorW.PrintWords Go.Proofs.YtmimninicegjcaaGreatDoorW.PrintLast Go.Proofs.YtmimninicegjcaaGreatDoorW.PrintMore
attribute [local go_sem] max2_int min2_int max_two min_two
set_option linter.unusedVariables false
set_option linter.unusedSimpArgs false
def whyCol (y : Int) (c : Col) : Int := let y1 := if goodName c.f0 = true then y else first1 y 60; if c.f1 < 0 ∨ c.f2 < 0 then first1 y1 10 else y1
def whyOf (l : List Col) (y : Int) : Int := l.foldl whyCol y
theorem whyOf_snoc (l : List Col) (y : Int) (k : Nat) (h : k < l.length) : whyOf (l.take (k + 1)) y = whyCol (whyOf (l.take k) y) l[k] := by
  rw [List.take_succ_eq_append_getElem h, whyOf, List.foldl_append]
  rfl
def debits (l : List Col) : List Int := l.map fun c => mx c.f1 0
def credits (l : List Col) : List Int := l.map fun c => mx c.f2 0
theorem debits_snoc (l : List Col) (k : Nat) (h : k < l.length) : debits (l.take (k + 1)) = debits (l.take k) ++ [mx l[k].f1 0] := by
  rw [List.take_succ_eq_append_getElem h, debits, List.map_append]
  rfl
theorem credits_snoc (l : List Col) (k : Nat) (h : k < l.length) : credits (l.take (k + 1)) = credits (l.take k) ++ [mx l[k].f2 0] := by
  rw [List.take_succ_eq_append_getElem h, credits, List.map_append]
  rfl
def trialRow (d : Nat) (c : Col) : List ByteArray := [c.f0, sideText c.f1 d, sideText c.f2 d]
def head3 : List ByteArray := [⟨#[65, 99, 99, 111, 117, 110, 116]⟩, ⟨#[68, 101, 98, 105, 116]⟩, ⟨#[67, 114, 101, 100, 105, 116]⟩]
def trialRows (l : List Col) (d : Nat) (a b : Int) : List (List ByteArray) := [head3] ++ l.map (trialRow d) ++ [[⟨#[83, 117, 109]⟩, moneyText a d, moneyText b d]]
theorem rows_snoc (l : List Col) (d k : Nat) (h : k < l.length) : [head3] ++ (l.take (k + 1)).map (trialRow d) = ([head3] ++ (l.take k).map (trialRow d)) ++ [[l[k].f0, sideText l[k].f1 d, sideText l[k].f2 d]] := by
  rw [List.take_succ_eq_append_getElem h, List.map_append, ← List.append_assoc]
  rfl
theorem cols_at {w : World} {A : Option Addr} {l : List Col} (h : Kd.C QT.k31 w A l.length l) :
    (l = [] ∨ ∃ ad, A = some ad) ∧ ∀ ad, A = some ad → ∀ i (hi : i < l.length), w.cell? (ad.add (i * 3)) = some (.string l[i].f0) ∧
      w.cell? ⟨(ad.add (i * 3)).block, (ad.add (i * 3)).off + 1, none⟩ = some (.int .i64 l[i].f1) ∧ w.cell? ⟨(ad.add (i * 3)).block, (ad.add (i * 3)).off + 2, none⟩ = some (.int .i64 l[i].f2) := by
  have e : ∀ i (hi : i < l.length), QT.rd_T31 l (i : Int) = l[i] := fun i hi => by simp [QT.rd_T31, List.getD_eq_getElem?_getD, List.getElem?_eq_getElem hi]
  refine ⟨?_, fun ad eA i hi => ?_⟩
  · cases l with
    | nil => exact .inl rfl
    | cons x l => obtain ⟨ad, e, _⟩ := QT.at_T31 h 0 (by omega) (by simp); exact .inr ⟨ad, e⟩
  · obtain ⟨ad', e', h0, h1, h2⟩ := QT.at_T31 h (i : Int) (by omega) (by omega)
    rw [eA] at e'
    obtain rfl := Option.some.inj e'
    rw [e i hi] at h0 h1 h2
    rw [Int.toNat_natCast] at h0 h1 h2
    exact ⟨h0, h1, h2⟩
set_option maxRecDepth 100000 in
set_option maxHeartbeats 4000000 in
theorem Trial_walk (A : Option Addr) (cap : Nat) (l : List Col) (d : Int) (w : World) (hr : Kd.C QT.k31 w A l.length l) (hc : l.length ≤ cap) (hL : Laid w)
    (hn : l.length ≤ 1048576) (sa ea sb eb y2 : Int) (hsa : L_Sum.f (debits l) = some (sa, ea)) (hsb : L_Sum.f (credits l) = some (sb, eb)) (hy2 : after (after (whyOf l (why0 d)) ea 11) eb 11 = y2)
    (T : ByteArray) (z : Int) (h1 : y2 ≠ 0 → T = ⟨#[]⟩ ∧ z = y2)
    (h2 : y2 = 0 → 0 ≤ d ∧ d ≤ 6 ∧ (∀ c ∈ l, (0 ≤ c.f1 ∧ c.f1 ≤ 9223372036854775807) ∧ 0 ≤ c.f2 ∧ c.f2 ≤ 9223372036854775807) ∧ L_Print.f sa d = some (moneyText sa d.toNat, 0) ∧ L_Print.f sb d = some (moneyText sb d.toNat, 0) ∧
      GridFits fromOne (trialRows l d.toNat sa sb) ∧ T = ⟨(gridText fromOne (trialRows l d.toNat sa sb)).toArray⟩ ∧ z = 0) :
    Calls Tryz.prog 10 #[.slice A l.length cap, .int .i64 d] w fun e w' => e = .returned (.tuple #[.string T, .int .i64 z]) ∧ Below w.heap.size w w' := by
  have HSA := Aside0.mk hsa
  have HSB := Aside0.mk hsb
  have HY2 := Aside0.mk hy2
  have HONE := Aside0.mk h1
  have HTWO := Aside0.mk h2
  clear hsa hsb hy2 h1 h2
  have HR := Aside0.mk hr
  have HL := Aside0.mk hL
  have HN := Aside0.mk hn
  have HC := Aside0.mk hc
  have HRD := Aside0.mk (cols_at hr)
  have i0 : (l.length : Int) ≤ 1048576 := by omega
  clear hr hc hL hn
  go_enter Tryz.func10, Tryz.ntmps10
  go_wp2_with fail
  refine (begin_calls d _).mono ?_
  rintro en w1 ⟨rfl, hs, hb⟩
  have HS := Aside0.mk hs
  have HB := Aside0.mk hb
  clear hs hb
  go_wp2_with fail
  have h16 : 7 ≤ w.heap.size := HL.out.low
  have H16 := Aside0.mk h16
  clear h16
  have HB0 := Aside0.mk (below_step HB.out (below_alloc (Below.refl _ _) (.cells #[.pointer (some ⟨w.heap.size, 0, none⟩)] 74 (0, 0))))
  have HS0 := Aside0.mk (St.mk (HS.out.below (below_alloc (Below.refl _ _) (.cells #[.pointer (some ⟨w.heap.size, 0, none⟩)] 74 (0, 0)))) (heap_alloc_new _ _) ((HL.out.below HB.out).alloc _))
  go_loopw [22] (fun v wr => ∃ k : Nat, v = .int .i64 k ∧ k ≤ l.length ∧ Aside0 (St wr w.heap.size w.heap.size w1.heap.size d (whyOf (l.take k) (why0 d)) []) ∧ Aside0 (Below w.heap.size w wr)) (fun v _ => l.length - (RowKit.intOf v).toNat)
  case atStart => exact ⟨0, rfl, Nat.zero_le _, ⟨(HS0.out : St _ _ _ _ _ _ _)⟩, HB0⟩
  case round =>
    obtain ⟨k, rfl, hk, HT, HB1⟩ := hrel
    by_cases hlt : k < l.length
    · obtain ⟨ad, rfl⟩ : ∃ ad, A = some ad := by
        rcases HRD.out.1 with h | h
        · subst h; simp at hlt
        · exact h
      obtain ⟨hc0, hc1, hc2⟩ := HRD.out.2 ad rfl k hlt
      replace hc0 := (HB1.out.cell (World.block_lt_of_cell? w _ hc0)).trans hc0
      replace hc1 := (HB1.out.cell (World.block_lt_of_cell? w _ hc1)).trans hc1
      replace hc2 := (HB1.out.cell (World.block_lt_of_cell? w _ hc2)).trans hc2
      have HSN := Aside0.mk (whyOf_snoc l (why0 d) k hlt)
      have iK : (k : Int) < (l.length : Int) := by omega
      generalize l[k] = c at *
      obtain ⟨gb, hgb0⟩ : ∃ gb, gb = wr.heap.size := ⟨_, rfl⟩
      have HGB := Aside0.mk hgb0
      clear hgb0
      have HK0 := Aside0.mk (heap_alloc_new wr (.cells #[.string c.f0, .int .i64 c.f1, .int .i64 c.f2] 31 (0, 0)))
      go_wp2_with fail
      refine (L_Good.calls c.f0 _ _ (HT.out.laid.alloc _) rfl).mono ?_
      rintro en w2 ⟨rfl, hb⟩
      have HT2 := Aside0.mk ((HT.out.below (below_alloc (Below.refl _ _) _)).below hb)
      have HK2 := Aside0.mk ((hb.block _ (blk_lt HK0.out)).trans HK0.out)
      have HB2 := Aside0.mk (below_step (below_step HB1.out (below_alloc (Below.refl _ _) _)) hb)
      have hgb := HGB.out
      rw [← hgb] at HK2 ⊢
      clear hb hc0 hc1 hc2 hgb
      by_cases hg : goodName c.f0 = true
      · have HGD := Aside0.mk hg
        rw [hg]
        clear hg
        have hbx2 : w2.cell? ⟨w1.heap.size, 0, none⟩ = some (.pointer (some ⟨w.heap.size, 0, none⟩)) := blk_cell HT2.out.box 0
        have hd2 : w2.cell? ⟨gb, 1, none⟩ = some (.int .i64 c.f1) := blk_cell HK2.out 1
        have he2 : w2.cell? ⟨gb, 2, none⟩ = some (.int .i64 c.f2) := blk_cell HK2.out 2
        by_cases hn1 : c.f1 < 0
        · have hn1' : decide (c.f1 < 0) = true := decide_eq_true hn1
          have HN1 := Aside0.mk hn1
          clear hn1
          go_wp2_with fail
          refine (HT2.out.sh.fail 10).mono ?_
          rintro en w3 ⟨rfl, hs, hk, hb⟩
          have HT3 := Aside0.mk (HT2.out.step H16.out hs hk hb)
          have HK3 := Aside0.mk (hk.keep _ _ _ HK2.out (by decide) (by decide))
          have HB3 := Aside0.mk (HB2.out.trans hb)
          clear hs hk hb
          go_wp2_with fail
          go_roundw
          case rel => exact ⟨k + 1, by go_num, hlt, ⟨(show _ = whyOf (l.take (k + 1)) (why0 d) by rw [HSN.out, whyCol, if_pos HGD.out, if_pos (.inl HN1.out)]) ▸ HT3.out⟩, HB3⟩
          case measure => simp [RowKit.intOf]; omega
        · have hn1' : decide (c.f1 < 0) = false := decide_eq_false hn1
          have HN1 := Aside0.mk hn1
          clear hn1
          by_cases hn2 : c.f2 < 0
          · have hn2' : decide (c.f2 < 0) = true := decide_eq_true hn2
            have HN2 := Aside0.mk hn2
            clear hn2
            go_wp2_with fail
            refine (HT2.out.sh.fail 10).mono ?_
            rintro en w3 ⟨rfl, hs, hk, hb⟩
            have HT3 := Aside0.mk (HT2.out.step H16.out hs hk hb)
            have HK3 := Aside0.mk (hk.keep _ _ _ HK2.out (by decide) (by decide))
            have HB3 := Aside0.mk (HB2.out.trans hb)
            clear hs hk hb
            go_wp2_with fail
            go_roundw
            case rel => exact ⟨k + 1, by go_num, hlt, ⟨(show _ = whyOf (l.take (k + 1)) (why0 d) by rw [HSN.out, whyCol, if_pos HGD.out, if_pos (.inr HN2.out)]) ▸ HT3.out⟩, HB3⟩
            case measure => simp [RowKit.intOf]; omega
          · have hn2' : decide (c.f2 < 0) = false := decide_eq_false hn2
            have HN2 := Aside0.mk hn2
            clear hn2
            go_wp2_with fail
            go_roundw
            case rel => exact ⟨k + 1, by go_num, hlt, ⟨(show _ = whyOf (l.take (k + 1)) (why0 d) by rw [HSN.out, whyCol, if_pos HGD.out, if_neg (fun h => by have := HN1.out; have := HN2.out; omega)]) ▸ HT2.out⟩, HB2⟩
            case measure => simp [RowKit.intOf]; omega
      · have hg' : goodName c.f0 = false := by simpa using hg
        have HGD := Aside0.mk hg
        rw [hg']
        clear hg hg'
        have hbx2 : w2.cell? ⟨w1.heap.size, 0, none⟩ = some (.pointer (some ⟨w.heap.size, 0, none⟩)) := blk_cell HT2.out.box 0
        have hd2 : w2.cell? ⟨gb, 1, none⟩ = some (.int .i64 c.f1) := blk_cell HK2.out 1
        have he2 : w2.cell? ⟨gb, 2, none⟩ = some (.int .i64 c.f2) := blk_cell HK2.out 2
        go_wp2_with fail
        refine (HT2.out.sh.fail 60).mono ?_
        rintro en w3 ⟨rfl, hs, hk, hb⟩
        have HT3 := Aside0.mk (HT2.out.step H16.out hs hk hb)
        have HK3 := Aside0.mk (hk.keep _ _ _ HK2.out (by decide) (by decide))
        have HB3 := Aside0.mk (HB2.out.trans hb)
        clear hs hk hb
        have hbx3 : w3.cell? ⟨w1.heap.size, 0, none⟩ = some (.pointer (some ⟨w.heap.size, 0, none⟩)) := blk_cell HT3.out.box 0
        have hd3 : w3.cell? ⟨gb, 1, none⟩ = some (.int .i64 c.f1) := blk_cell HK3.out 1
        have he3 : w3.cell? ⟨gb, 2, none⟩ = some (.int .i64 c.f2) := blk_cell HK3.out 2
        by_cases hn1 : c.f1 < 0
        · have hn1' : decide (c.f1 < 0) = true := decide_eq_true hn1
          have HN1 := Aside0.mk hn1
          clear hn1
          go_wp2_with fail
          refine (HT3.out.sh.fail 10).mono ?_
          rintro en w4 ⟨rfl, hs, hk, hb⟩
          have HT4 := Aside0.mk (HT3.out.step H16.out hs hk hb)
          have HK4 := Aside0.mk (hk.keep _ _ _ HK3.out (by decide) (by decide))
          have HB4 := Aside0.mk (HB3.out.trans hb)
          clear hs hk hb
          go_wp2_with fail
          go_roundw
          case rel => exact ⟨k + 1, by go_num, hlt, ⟨(show _ = whyOf (l.take (k + 1)) (why0 d) by rw [HSN.out, whyCol, if_neg HGD.out, if_pos (.inl HN1.out)]) ▸ HT4.out⟩, HB4⟩
          case measure => simp [RowKit.intOf]; omega
        · have hn1' : decide (c.f1 < 0) = false := decide_eq_false hn1
          have HN1 := Aside0.mk hn1
          clear hn1
          by_cases hn2 : c.f2 < 0
          · have hn2' : decide (c.f2 < 0) = true := decide_eq_true hn2
            have HN2 := Aside0.mk hn2
            clear hn2
            go_wp2_with fail
            refine (HT3.out.sh.fail 10).mono ?_
            rintro en w4 ⟨rfl, hs, hk, hb⟩
            have HT4 := Aside0.mk (HT3.out.step H16.out hs hk hb)
            have HK4 := Aside0.mk (hk.keep _ _ _ HK3.out (by decide) (by decide))
            have HB4 := Aside0.mk (HB3.out.trans hb)
            clear hs hk hb
            go_wp2_with fail
            go_roundw
            case rel => exact ⟨k + 1, by go_num, hlt, ⟨(show _ = whyOf (l.take (k + 1)) (why0 d) by rw [HSN.out, whyCol, if_neg HGD.out, if_pos (.inr HN2.out)]) ▸ HT4.out⟩, HB4⟩
            case measure => simp [RowKit.intOf]; omega
          · have hn2' : decide (c.f2 < 0) = false := decide_eq_false hn2
            have HN2 := Aside0.mk hn2
            clear hn2
            go_wp2_with fail
            go_roundw
            case rel => exact ⟨k + 1, by go_num, hlt, ⟨(show _ = whyOf (l.take (k + 1)) (why0 d) by rw [HSN.out, whyCol, if_neg HGD.out, if_neg (fun h => by have := HN1.out; have := HN2.out; omega)]) ▸ HT3.out⟩, HB3⟩
            case measure => simp [RowKit.intOf]; omega
    · have hk' : k = l.length := by omega
      subst hk'
      rw [List.take_length] at HT
      generalize whyOf l (why0 d) = y1 at *
      go_wp2_with fail
      clear HS0 HB0 HS HB
      obtain ⟨W2, hW2⟩ : ∃ x, x = wr := ⟨_, rfl⟩
      clear hW2
      go_loopw [9, 10, 45] (fun v9 v10 v wr => ∃ k : Nat, v = .int .i64 k ∧ k ≤ l.length ∧ Aside0 (Kd.R (Kd.int .i64) 2 wr w.heap.size (fun b => some b ≠ v10.ownBlock) v9 (debits (l.take k))) ∧ Aside0 (Kd.R (Kd.int .i64) 2 wr w.heap.size (fun b => some b ≠ v9.ownBlock) v10 (credits (l.take k))) ∧ Aside0 (St wr w.heap.size w.heap.size w1.heap.size d y1 []) ∧ Aside0 (Below w.heap.size w wr)) (fun _ _ v _ => l.length - (RowKit.intOf v).toNat)
      case atStart => exact ⟨0, rfl, Nat.zero_le _, ⟨Kd.R_nil _ _ _ _ _⟩, ⟨Kd.R_nil _ _ _ _ _⟩, HT, HB1⟩
      case round =>
        obtain ⟨k, rfl, hk, HD, HE, HT, HB1⟩ := hrel
        by_cases hlt : k < l.length
        · obtain ⟨ad, rfl⟩ : ∃ ad, A = some ad := by
            rcases HRD.out.1 with h | h
            · subst h; simp at hlt
            · exact h
          obtain ⟨hc0, hc1, hc2⟩ := HRD.out.2 ad rfl k hlt
          replace hc0 := (HB1.out.cell (World.block_lt_of_cell? w _ hc0)).trans hc0
          replace hc1 := (HB1.out.cell (World.block_lt_of_cell? w _ hc1)).trans hc1
          replace hc2 := (HB1.out.cell (World.block_lt_of_cell? w _ hc2)).trans hc2
          have HDS := Aside0.mk (debits_snoc l k hlt)
          have HES := Aside0.mk (credits_snoc l k hlt)
          have hld : (debits (l.take k)).length = k := by simp [debits]; omega
          have hle : (credits (l.take k)).length = k := by simp [credits]; omega
          have HLD := Aside0.mk hld
          have HLE := Aside0.mk hle
          clear hld hle
          have iK : (k : Int) < (l.length : Int) := by omega
          generalize l[k] = c at *
          have HP0 := Aside0.mk (Two.mk (gb := wr.heap.size) (c := c) (W := wr.alloc (.cells #[.string c.f0, .int .i64 c.f1, .int .i64 c.f2] 31 (0, 0))) (Kd.R_alloc HD.out _) (Kd.R_alloc HE.out _) (HT.out.below (below_alloc (Below.refl _ _) _)) (heap_alloc_new _ _) (below_step HB1.out (below_alloc (Below.refl _ _) _)))
          clear HD HE HT HB1
          go_wp2_with fail
          generalize wr.alloc (.cells #[.string c.f0, .int .i64 c.f1, .int .i64 c.f2] 31 (0, 0)) = wc at *
          obtain ⟨xs, hxs⟩ : ∃ x, x = debits (l.take k) := ⟨_, rfl⟩
          obtain ⟨ys, hys⟩ : ∃ x, x = credits (l.take k) := ⟨_, rfl⟩
          rw [← hxs] at HP0 HDS HLD
          rw [← hys] at HP0 HES HLE
          have HXS := Aside0.mk hxs
          have hlx : xs.length ≤ 1048576 := by have := HLD.out; have := HN.out; omega
          have hly : ys.length ≤ 1048576 := by have := HLE.out; have := HN.out; omega
          have HLX := Aside0.mk hlx
          have HLY := Aside0.mk hly
          clear hlx hly
          have HYS := Aside0.mk hys
          clear hxs hys hc0 hc1 hc2
          generalize wr.heap.size = gb at *
          have cd : wc.cell? ⟨gb, 1, none⟩ = some (.int .i64 c.f1) := blk_cell HP0.out.blk 1
          have ce : wc.cell? ⟨gb, 2, none⟩ = some (.int .i64 c.f2) := blk_cell HP0.out.blk 2
          go_region_held3 (fun w' => w'.cell? ⟨gb, 1, none⟩ = some (.int .i64 c.f1) ∧ w'.cell? ⟨gb, 2, none⟩ = some (.int .i64 c.f2))
            (first | (exact Two.at1 HQ1) | (exact Two.at1 HP1) | (exact Two.at1 HP0.out.drew) | (exact Two.at1 (HQ1.alloc _)) | (exact Two.at1 (HP1.alloc _)) | (exact Two.at1 (HP0.out.drew.alloc _)) | (exact Two.at1 ((HP0.out.drew.alloc _).alloc _)))
            (first
              | (refine Two.step9 (HP0.out.drew.alloc _) (Lone.new' HP0.out.drew rfl) H16.out (.tmp 49) (.tmp 53) rfl rfl rfl rfl HLX.out ?_; intro v1 w3 HP1 HM1)
              | (refine Two.step9 ((HP0.out.drew.alloc _).alloc _) (Lone.alloc (Lone.new' HP0.out.drew rfl) _) H16.out (.tmp 49) (.tmp 53) rfl rfl rfl rfl HLX.out ?_; intro v1 w3 HP1 HM1)
              | (refine Two.step9 (HQ1.alloc _) (Lone.new' HQ1 rfl) H16.out (.tmp 49) (.tmp 53) rfl rfl rfl rfl HLX.out ?_; intro v1 w3 HP1 HM1)
              | (refine Two.step9 HQ1 (HM2 _ _ (Lone.alloc (Lone.new' HP0.out.drew rfl) _)) H16.out (.tmp 49) (.tmp 53) rfl rfl rfl rfl HLX.out ?_; intro v1 w3 HP1 HM1)
              | (refine Two.step9 ((HP0.out.drew.alloc _).alloc _) (Lone.new' (HP0.out.drew.alloc _) rfl) H16.out (.tmp 49) (.tmp 53) rfl rfl rfl rfl HLX.out ?_; intro v1 w3 HP1 HM1)
              | (refine Two.step9 HQ1 (HM2 _ _ (Lone.new' (HP0.out.drew.alloc _) rfl)) H16.out (.tmp 49) (.tmp 53) rfl rfl rfl rfl HLX.out ?_; intro v1 w3 HP1 HM1)
              | (refine Two.step9 ((HP0.out.drew.alloc _).alloc _) (Lone.new' (HP0.out.drew.alloc _) sz1) H16.out (.tmp 49) (.tmp 53) rfl rfl rfl rfl HLX.out ?_; intro v1 w3 HP1 HM1)
              | (refine Two.step9 HQ1 (HM2 _ _ (Lone.new' (HP0.out.drew.alloc _) sz1)) H16.out (.tmp 49) (.tmp 53) rfl rfl rfl rfl HLX.out ?_; intro v1 w3 HP1 HM1)
              | (refine Two.step10 (HP0.out.drew.alloc _) (Lone.new' HP0.out.drew rfl) H16.out (.tmp 55) (.tmp 59) rfl rfl rfl rfl HLY.out ?_; intro v2 w4 HQ1 HM2)
              | (refine Two.step10 ((HP0.out.drew.alloc _).alloc _) (Lone.alloc (Lone.new' HP0.out.drew rfl) _) H16.out (.tmp 55) (.tmp 59) rfl rfl rfl rfl HLY.out ?_; intro v2 w4 HQ1 HM2)
              | (refine Two.step10 (HP1.alloc _) (Lone.new' HP1 rfl) H16.out (.tmp 55) (.tmp 59) rfl rfl rfl rfl HLY.out ?_; intro v2 w4 HQ1 HM2)
              | (refine Two.step10 HP1 (HM1 _ _ (Lone.alloc (Lone.new' HP0.out.drew rfl) _)) H16.out (.tmp 55) (.tmp 59) rfl rfl rfl rfl HLY.out ?_; intro v2 w4 HQ1 HM2)
              | (refine Two.step10 ((HP0.out.drew.alloc _).alloc _) (Lone.new' (HP0.out.drew.alloc _) rfl) H16.out (.tmp 55) (.tmp 59) rfl rfl rfl rfl HLY.out ?_; intro v2 w4 HQ1 HM2)
              | (refine Two.step10 HP1 (HM1 _ _ (Lone.new' (HP0.out.drew.alloc _) rfl)) H16.out (.tmp 55) (.tmp 59) rfl rfl rfl rfl HLY.out ?_; intro v2 w4 HQ1 HM2)
              | (refine Two.step10 ((HP0.out.drew.alloc _).alloc _) (Lone.new' (HP0.out.drew.alloc _) sz1) H16.out (.tmp 55) (.tmp 59) rfl rfl rfl rfl HLY.out ?_; intro v2 w4 HQ1 HM2)
              | (refine Two.step10 HP1 (HM1 _ _ (Lone.new' (HP0.out.drew.alloc _) sz1)) H16.out (.tmp 55) (.tmp 59) rfl rfl rfl rfl HLY.out ?_; intro v2 w4 HQ1 HM2))
          all_goals (
            go_wp2_with fail
            go_roundw
            case measure => simp [RowKit.intOf]; omega
            case rel =>
              refine ⟨k + 1, ?_, hlt, ?_⟩
              · go_num
              · rw [HDS.out, HES.out]
                first | exact ⟨⟨HQ1.r9⟩, ⟨HQ1.r10⟩, ⟨HQ1.st⟩, ⟨HQ1.bel⟩⟩ | exact ⟨⟨HP1.r9⟩, ⟨HP1.r10⟩, ⟨HP1.st⟩, ⟨HP1.bel⟩⟩)
        · have hk' : k = l.length := by omega
          subst hk'
          rw [List.take_length] at HD HE
          have HTT := Aside0.mk (Tot.mk (Kd.R_mono HD.out (fun _ _ => trivial)) (Kd.R_mono HE.out (fun _ _ => trivial)) HT.out HB1.out)
          obtain ⟨A9, c9, e9⟩ := Kd.R_slice HTT.out.r9
          subst e9
          obtain ⟨A10, c10, e10⟩ := Kd.R_slice HTT.out.r10
          subst e10
          clear HD HE HT HB1
          generalize (debits l).length = n9 at *
          generalize (credits l).length = n10 at *
          have hbx := HTT.out.at0
          go_wp2_with fail
          go_region_held3 (fun w' => w'.cell? ⟨w1.heap.size, 0, none⟩ = some (.pointer (some ⟨w.heap.size, 0, none⟩)))
            (first | (exact HV1.at0) | (exact HU1.at0) | (exact HTT.out.drew.at0))
            (first
              | (go_at_call 40; refine (Tot.total10 HU1 H16.out HSB.out).mono ?_; rintro en w6 ⟨rfl, HV1⟩)
              | (go_at_call 40; refine (Tot.total9 HTT.out.drew H16.out HSA.out).mono ?_; rintro en w5 ⟨rfl, HU1⟩))
          rw [HY2.out] at HV1
          have HV := Aside0.mk HV1
          clear HV1 HU1 HTT hbx HSA HSB HY2
          have hw6 : w6.cell? ⟨w.heap.size, 1, none⟩ = some (.int .i64 y2) := by
            obtain ⟨vr, q1, q2⟩ := HV.out.st.sh.ex
            exact blk_cell q1 1
          have hbx6 := HV.out.at0
          by_cases hy : y2 = 0
          · subst hy
            obtain ⟨hd0, hd1, hcs, hpa, hpb, hgf, hT, hz⟩ := HTWO.out rfl
            subst hT hz
            have HD0 := Aside0.mk hd0
            have HD1 := Aside0.mk hd1
            have HCS := Aside0.mk hcs
            have HPA := Aside0.mk hpa
            have HPB := Aside0.mk hpb
            have HGF := Aside0.mk hgf
            have HF := Aside0.mk (Fin3.mk HV.out.st HV.out.bel)
            clear hd0 hd1 hcs hpa hpb hgf HTWO HONE HV
            go_wp2_with fail
            refine (HF.out.row H16.out _ _ _ (by simp)).mono ?_
            rintro en w7 ⟨rfl, hf⟩
            have HF7 := Aside0.mk hf
            clear hf hw6 hbx6 HF
            go_wp2_with fail
            go_loopw [83] (fun v wr => ∃ k : Nat, v = .int .i64 k ∧ k ≤ l.length ∧ Aside0 (Fin3 w w1.heap.size d ([head3] ++ (l.take k).map (trialRow d.toNat)) wr)) (fun v _ => l.length - (RowKit.intOf v).toNat)
            case atStart => exact ⟨0, rfl, Nat.zero_le _, HF7⟩
            case round =>
              obtain ⟨k, rfl, hk, HF⟩ := hrel
              by_cases hlt : k < l.length
              · obtain ⟨ad, rfl⟩ : ∃ ad, A = some ad := by
                  rcases HRD.out.1 with h | h
                  · subst h; simp at hlt
                  · exact h
                obtain ⟨hc0, hc1, hc2⟩ := HRD.out.2 ad rfl k hlt
                replace hc0 := (HF.out.bel.cell (World.block_lt_of_cell? w _ hc0)).trans hc0
                replace hc1 := (HF.out.bel.cell (World.block_lt_of_cell? w _ hc1)).trans hc1
                replace hc2 := (HF.out.bel.cell (World.block_lt_of_cell? w _ hc2)).trans hc2
                have HRS := Aside0.mk (rows_snoc l d.toNat k hlt)
                have hrl : ([head3] ++ (l.take k).map (trialRow d.toNat)).length ≤ 1048577 := by have := HN.out; simp; omega
                have hb4 := HCS.out l[k] (List.getElem_mem hlt)
                have iK : (k : Int) < (l.length : Int) := by omega
                generalize l[k] = c at *
                have HRL := Aside0.mk hrl
                have HB4 := Aside0.mk hb4
                have HR0 := Aside0.mk (Rnd.mk (gb := wr.heap.size) (c := c) (W := wr.alloc (.cells #[.string c.f0, .int .i64 c.f1, .int .i64 c.f2] 31 (0, 0))) (HF.out.alloc _).st (heap_alloc_new _ _) (HF.out.alloc _).bel)
                clear hrl hb4 HF
                go_wp2_with fail
                generalize wr.alloc (.cells #[.string c.f0, .int .i64 c.f1, .int .i64 c.f2] 31 (0, 0)) = wc at *
                clear hc0 hc1 hc2
                generalize wr.heap.size = gb at *
                generalize [head3] ++ (l.take k).map (trialRow d.toNat) = rows at *
                go_region_held3 (fun w' => w'.cell? ⟨w1.heap.size, 0, none⟩ = some (.pointer (some ⟨w.heap.size, 0, none⟩)) ∧ w'.cell? ⟨gb, 0, none⟩ = some (.string c.f0) ∧ w'.cell? ⟨gb, 1, none⟩ = some (.int .i64 c.f1) ∧ w'.cell? ⟨gb, 2, none⟩ = some (.int .i64 c.f2))
                  (first | (exact HX3.at4) | (exact (HX2.alloc _).at4) | (exact HX2.at4) | (exact HX1.at4) | (exact HR0.out.drew.at4))
                  (first
                    | (go_at_call 43; refine (HX2.row H16.out _ _ _ HRL.out).mono ?_; rintro en w10 ⟨rfl, HX3⟩)
                    | (go_at_call 41; refine (HX1.side H16.out HD0.out HD1.out c.f2 HB4.out.2.1 HB4.out.2.2).mono ?_; rintro en w9 ⟨rfl, HX2⟩)
                    | (go_at_call 41; refine (HR0.out.drew.side H16.out HD0.out HD1.out c.f1 HB4.out.1.1 HB4.out.1.2).mono ?_; rintro en w8 ⟨rfl, HX1⟩))
                go_wp2_with fail
                go_roundw
                case rel => exact ⟨k + 1, by go_num, hlt, ⟨by rw [HRS.out]; exact ⟨HX3.st, HX3.bel⟩⟩⟩
                case measure => simp [RowKit.intOf]; omega
              · have hk' : k = l.length := by omega
                subst hk'
                rw [List.take_length] at HF
                have hbx := HF.out.at0
                have hlr : ([head3] ++ l.map (trialRow d.toNat)).length ≤ 1048577 := by have := HN.out; simp; omega
                have HLR := Aside0.mk hlr
                clear hlr
                obtain ⟨ta, hta⟩ : ∃ x, moneyText sa d.toNat = x := ⟨_, rfl⟩
                obtain ⟨tb, htb⟩ : ∃ x, moneyText sb d.toNat = x := ⟨_, rfl⟩
                rw [hta] at HPA
                rw [htb] at HPB
                have HTA := Aside0.mk hta
                have HTB := Aside0.mk htb
                clear hta htb
                go_wp2_with fail
                go_region_held3 (fun w' => w'.cell? ⟨w1.heap.size, 0, none⟩ = some (.pointer (some ⟨w.heap.size, 0, none⟩)))
                  (first | (exact HX3.at0) | (exact (HX2.alloc _).at0) | (exact HX2.at0) | (exact HX1.at0) | (exact HF.out.drew.at0))
                  (first
                    | (go_at_call 43; refine (HX2.row H16.out _ _ _ HLR.out).mono ?_; rintro en w10 ⟨rfl, HX3⟩)
                    | (go_at_call 42; refine (HX1.amount H16.out HPB.out).mono ?_; rintro en w9 ⟨rfl, HX2⟩)
                    | (go_at_call 42; refine (HF.out.drew.amount H16.out HPA.out).mono ?_; rintro en w8 ⟨rfl, HX1⟩))
                have HX := Aside0.mk HX3
                clear HX1 HX2 HX3 hbx
                have hbx := HX.out.at0
                go_wp2_with fail
                have hgf2 : GridFits fromOne (([head3] ++ l.map (trialRow d.toNat)) ++ [[⟨#[83, 117, 109]⟩, ta, tb]]) := by
                  have := HGF.out
                  rw [trialRows, HTA.out, HTB.out] at this
                  exact this
                have HG2 := Aside0.mk hgf2
                clear hgf2
                refine (end_calls HX.out.st HG2.out).mono ?_
                rintro en w11 ⟨rfl, hb⟩
                have HB := Aside0.mk (below_step HX.out.bel hb)
                clear hb
                go_wp2_with fail
                go_ret2
                exact ⟨by rw [trialRows, HTA.out, HTB.out]; rfl, HB.out⟩

          · have hy' : (y2 == 0) = false := beq_eq_false_iff_ne.2 hy
            obtain ⟨hT, hz⟩ := HONE.out hy
            subst hT hz
            clear HTWO HONE hy
            go_wp2_with fail
            go_quiet (fail)
            go_wp2_with fail
            go_ret2
            exact ⟨rfl, by repeat (first | exact HV.out.bel | apply pw_below_drewN | apply below_drew)⟩

end Go.Proofs.YtmimninicegjcaaGreatDoor
/- sheet.Trial as a plain function, and its contract. -/
namespace Go.Proofs.YtmimninicegjcaaGreatDoor
open Go.RowKit Go.Shelf Go.Lib Go.Proofs.YtmimninicegjcaaGreatDoorW.PrintWords Go.Proofs.YtmimninicegjcaaGreatDoorW.PrintLast Go.Proofs.YtmimninicegjcaaGreatDoorW.PrintMore
set_option linter.unusedVariables false
set_option linter.unusedSimpArgs false
def trialOut (l : List Col) (d : Int) : ByteArray × Int :=
  if after (after (whyOf l (why0 d)) (sumSpec (debits l)).2 11) (sumSpec (credits l)).2 11 = 0 then (⟨(gridText fromOne (trialRows l d.toNat (sumSpec (debits l)).1 (sumSpec (credits l)).1)).toArray⟩, 0)
  else (⟨#[]⟩, after (after (whyOf l (why0 d)) (sumSpec (debits l)).2 11) (sumSpec (credits l)).2 11)
def colOk (c : Col) : Bool := decide (isI64 c.f1) && decide (isI64 c.f2)
def H_Trial.f (l0 : List QT.S31) (a1 : Int) : Option (ByteArray × Int) := if l0.length ≤ 1048576 ∧ l0.all colOk = true then some (trialOut l0 a1) else none
theorem after_zero {y e : Int} (h : after y e 11 = 0) : y = 0 ∧ e = 0 := by
  unfold after first1 at h
  repeat' split at h
  all_goals first | omega | (exact ⟨h, by assumption⟩)
theorem whyCol_zero {y : Int} {c : Col} (h : whyCol y c = 0) : y = 0 ∧ goodName c.f0 = true ∧ 0 ≤ c.f1 ∧ 0 ≤ c.f2 := by
  unfold whyCol first1 at h
  simp only at h
  by_cases hg : goodName c.f0 = true
  · rw [if_pos hg] at h
    repeat' split at h
    all_goals first | omega | exact ⟨by omega, hg, by omega, by omega⟩
  · rw [if_neg hg] at h
    repeat' split at h
    all_goals omega
theorem whyOf_zero : ∀ (l : List Col) (y : Int), whyOf l y = 0 → y = 0 ∧ ∀ c ∈ l, goodName c.f0 = true ∧ 0 ≤ c.f1 ∧ 0 ≤ c.f2
  | [], y, h => ⟨h, by simp⟩
  | c :: l, y, h => by
    have h2 : whyOf l (whyCol y c) = 0 := h
    obtain ⟨h3, h4⟩ := whyOf_zero l _ h2
    obtain ⟨h5, h6⟩ := whyCol_zero h3
    refine ⟨h5, fun x hx => ?_⟩
    rcases List.mem_cons.1 hx with rfl | hx
    · exact h6
    · exact h4 x hx
theorem sumSpec_ok {l : List Int} (h : (sumSpec l).2 = 0) : -9223372036854775808 < (sumSpec l).1 ∧ (sumSpec l).1 < 9223372036854775808 := by
  unfold sumSpec at h ⊢
  split at h
  · split at h
    · rename_i h1 h2
      rw [if_pos h1, if_pos h2]
      exact h2
    · exact absurd h (by decide)
  · exact absurd h (by decide)
theorem goodName_size {s : ByteArray} (h : goodName s = true) : s.size ≤ 102 := by
  unfold goodName at h
  simp only [Bool.and_eq_true, decide_eq_true_eq] at h
  exact h.1
theorem moneyText_size {a : Int} {d : Nat} (ha : isI64 a) (hd : d ≤ 6) : (moneyText a d).size ≤ 60 := by
  have h1 := (decDigits_size a.natAbs (by have := ha.1; have := ha.2; omega)).2
  have h2 : ∀ s : ByteArray, s.size ≤ 20 → (padded s d).size ≤ 27 := fun s hs => by
    unfold padded
    split
    · rw [ByteArray.size_append, zerosB_size]; omega
    · omega
  have h3 : ∀ s : ByteArray, s.size ≤ 27 → (pointed s d).size ≤ 59 := fun s hs => by
    unfold pointed
    split
    · rw [ByteArray.size_append, ByteArray.size_append]
      have e1 := extract_le s 0 (s.size - d)
      have e2 := extract_le s (s.size - d) s.size
      have e3 : (⟨#[46]⟩ : ByteArray).size = 1 := rfl
      omega
    · omega
  have h4 := h3 _ (h2 _ h1)
  unfold moneyText
  simp only
  split
  · rw [ByteArray.size_append]
    have e3 : (⟨#[45]⟩ : ByteArray).size = 1 := rfl
    omega
  · omega
theorem wid_le {rows : List (List ByteArray)} {B : Nat} (h : ∀ r ∈ rows, ∀ x ∈ r, x.size ≤ B) (c : Nat) : wid rows c ≤ B := by
  have key : ∀ (m : List (List ByteArray)) (n : Nat), n ≤ B → (∀ r ∈ m, ∀ x ∈ r, x.size ≤ B) → m.foldl (fun m r => max m (sizeAt r c)) n ≤ B := by
    intro m
    induction m with
    | nil => exact fun n hn _ => hn
    | cons r m ih =>
      intro n hn hm
      rw [List.foldl_cons]
      refine ih _ ?_ (fun r' hr' => hm r' (by simp [hr']))
      have : sizeAt r c ≤ B := by
        unfold sizeAt
        split
        · rename_i x hx
          exact hm r (by simp) x (List.mem_of_getElem? hx)
        · omega
      omega
  exact key rows 0 (Nat.zero_le _) h
theorem trimRightB_length (l : List UInt8) (c : UInt8) : (Lib.trimRightB l c).length ≤ l.length := by
  unfold Lib.trimRightB
  rw [List.length_reverse]
  have := (List.dropWhile_sublist (· == c) (l := l.reverse)).length_le
  rwa [List.length_reverse] at this
theorem gridTo_length {R : Nat → Bool} {rows : List (List ByteArray)} {B M : Nat} (h : ∀ r ∈ rows, ∀ x ∈ r, x.size ≤ B) (hB : B ≤ 4194304) (hm : ∀ r ∈ rows, r.length ≤ M) (k : Nat) : (gridTo R rows k).length ≤ rows.length * (M * 4194306 + 1) := by
  have key : ∀ m : List (List ByteArray), (∀ r ∈ m, r ∈ rows) → ((m.map fun r => lineText R (wid rows) r).flatten).length ≤ m.length * (M * 4194306 + 1) := by
    intro m
    induction m with
    | nil => simp
    | cons r m ih =>
      intro hr
      have h1 := ih (fun x hx => hr x (by simp [hx]))
      have h2 : (lineText R (wid rows) r).length ≤ M * 4194306 + 1 := by
        unfold lineText
        rw [List.length_append, List.length_singleton]
        have h3 := trimRightB_length (lineTo R (wid rows) r r.length) 32
        have h4 := lineTo_length R (wid rows) r (fun c => Nat.le_trans (wid_le h c) hB) (fun c hc => by
          have := sizeAt_le rows r (hr r (by simp)) c
          unfold sizeAt at this
          rwa [List.getElem?_eq_getElem hc] at this) r.length (Nat.le_refl _)
        have h5 : r.length * 4194306 ≤ M * 4194306 := Nat.mul_le_mul_right _ (hm r (hr r (by simp)))
        omega
      rw [List.map_cons, List.flatten_cons, List.length_append, List.length_cons, Nat.add_mul]
      omega
  have h1 := key (rows.take k) (fun r hr => List.mem_of_mem_take hr)
  unfold gridTo
  refine Nat.le_trans h1 (Nat.mul_le_mul_right _ ?_)
  rw [List.length_take]
  omega
theorem trialRows_fits {l : List Col} {d : Nat} {a b : Int} (hn : l.length ≤ 1048576) (hg : ∀ c ∈ l, goodName c.f0 = true ∧ 0 ≤ c.f1 ∧ 0 ≤ c.f2) (hi : ∀ c ∈ l, isI64 c.f1 ∧ isI64 c.f2) (ha : isI64 a) (hb : isI64 b) (hd : d ≤ 6) :
    GridFits fromOne (trialRows l d a b) := by
  have hside : ∀ a, isI64 a → (sideText a d).size ≤ 102 := fun a ha => by
    unfold sideText
    split
    · exact Nat.zero_le _
    · have := moneyText_size ha hd; omega
  have hx : ∀ r ∈ trialRows l d a b, r.length = 3 ∧ ∀ x ∈ r, x.size ≤ 102 := by
    intro r hr
    unfold trialRows at hr
    rw [List.mem_append, List.mem_append, List.mem_singleton, List.mem_singleton, List.mem_map] at hr
    rcases hr with (rfl | ⟨c, hc, rfl⟩) | rfl
    · refine ⟨rfl, fun x hx => ?_⟩
      unfold head3 at hx
      simp only [List.mem_cons, List.not_mem_nil, or_false] at hx
      rcases hx with rfl | rfl | rfl <;> decide
    · refine ⟨rfl, fun x hx => ?_⟩
      unfold trialRow at hx
      simp only [List.mem_cons, List.not_mem_nil, or_false] at hx
      rcases hx with rfl | rfl | rfl
      · exact goodName_size (hg c hc).1
      · exact hside _ (hi c hc).1
      · exact hside _ (hi c hc).2
    · refine ⟨rfl, fun x hx => ?_⟩
      simp only [List.mem_cons, List.not_mem_nil, or_false] at hx
      rcases hx with rfl | rfl | rfl
      · decide
      · have := moneyText_size ha hd; omega
      · have := moneyText_size hb hd; omega
  have hl : (trialRows l d a b).length ≤ 1048578 := by
    unfold trialRows
    simp
    omega
  refine ⟨by omega, fun r hr => by rw [(hx r hr).1]; decide, fun c => Nat.le_trans (wid_le (fun r hr => (hx r hr).2) c) (by decide), fun k => ?_⟩
  refine Nat.le_trans (gridTo_length (M := 3) (fun r hr => (hx r hr).2) (by decide) (fun r hr => by rw [(hx r hr).1]; decide) k) ?_
  omega
theorem mx_i64 {a : Int} (h : isI64 a) : -9223372036854775808 ≤ mx a 0 ∧ mx a 0 < 9223372036854775808 := by
  have := h.1
  have := h.2
  unfold mx
  split <;> omega
theorem L_Sum_some {l : List Int} (hn : l.length ≤ 1048576) (h : ∀ a ∈ l, -9223372036854775808 ≤ a ∧ a < 9223372036854775808) : L_Sum.f l = some ((sumSpec l).1, (sumSpec l).2) := by
  unfold L_Sum.f
  rw [if_pos ⟨by omega, by rw [List.all_eq_true]; exact fun a ha => decide_eq_true (h a ha)⟩]
theorem H_Trial.calls (A0 : Option Addr) (c0 : Nat) (l0 : List QT.S31) (a1 : Int) (r1 : ByteArray) (r2 : Int) (w : World) (hr0 : Kd.C QT.k31 w A0 l0.length l0) (hc0 : l0.length ≤ c0) (hL : Laid w) (h : H_Trial.f l0 a1 = some (r1, r2)) :
    Calls Tryz.prog 10 #[.slice A0 l0.length c0, .int .i64 a1] w fun e w' => e = .returned (.tuple #[.string r1, .int .i64 r2]) ∧ Below w.heap.size w w' := by
  unfold H_Trial.f at h
  split at h
  · rename_i hh
    obtain ⟨hn, hall⟩ := hh
    rw [List.all_eq_true] at hall
    have hi : ∀ c ∈ l0, isI64 c.f1 ∧ isI64 c.f2 := fun c hc => by
      have := hall c hc
      unfold colOk at this
      simpa using this
    have h := Option.some.inj h
    refine Trial_walk A0 c0 l0 a1 w hr0 hc0 hL hn _ _ _ _ _ (L_Sum_some (by simpa [debits] using hn) ?_) (L_Sum_some (by simpa [credits] using hn) ?_) rfl r1 r2 ?_ ?_
    · intro a ha
      unfold debits at ha
      obtain ⟨c, hc, rfl⟩ := List.mem_map.1 ha
      exact mx_i64 (hi c hc).1
    · intro a ha
      unfold credits at ha
      obtain ⟨c, hc, rfl⟩ := List.mem_map.1 ha
      exact mx_i64 (hi c hc).2
    · intro hne
      unfold trialOut at h
      rw [if_neg hne] at h
      simp only [Prod.mk.injEq] at h
      exact ⟨h.1.symm, h.2.symm⟩
    · intro he
      unfold trialOut at h
      rw [if_pos he] at h
      simp only [Prod.mk.injEq] at h
      obtain ⟨he1, heb⟩ := after_zero he
      obtain ⟨he2, hea⟩ := after_zero he1
      obtain ⟨hw, hg⟩ := whyOf_zero l0 _ he2
      have hd : 0 ≤ a1 ∧ a1 ≤ 6 := by
        unfold why0 at hw
        split at hw
        · assumption
        · exact absurd hw (by decide)
      have hsa := sumSpec_ok hea
      have hsb := sumSpec_ok heb
      have hpr : ∀ s : Int, -9223372036854775808 < s ∧ s < 9223372036854775808 → L_Print.f s a1 = some (moneyText s a1.toNat, 0) := fun s hs => by
        unfold L_Print.f
        rw [if_neg (by omega), if_neg (by omega), if_pos (by unfold isI64; omega)]
      refine ⟨hd.1, hd.2, fun c hc => ?_, hpr _ hsa, hpr _ hsb, ?_, h.1.symm, h.2.symm⟩
      · have h1 := hg c hc
        have h2 := hi c hc
        exact ⟨⟨h1.2.1, h2.1.2⟩, h1.2.2, h2.2.2⟩
      · exact trialRows_fits hn hg hi (by unfold isI64; omega) (by unfold isI64; omega) (by omega)
  · exact absurd h (by simp)
end Go.Proofs.YtmimninicegjcaaGreatDoor
-- Written by a program of this session (wip/myprint.py, which drives the kit's print with hand-proved leaves). Not trusted: Lean checks it.
namespace Go.Proofs.YtmimninicegjcaaGreatDoor.QT
open Go.RowKit Go.Proofs.YtmimninicegjcaaGreatDoorW.PrintWords Go.Proofs.YtmimninicegjcaaGreatDoorW.PrintLast Go.Proofs.YtmimninicegjcaaGreatDoorW.PrintMore
attribute [local go_sem] max2_int min2_int max_two min_two max_three min_three max_four min_four   -- for this text's walks alone
set_option linter.unusedVariables false
set_option linter.unusedSimpArgs false

/-! ### daybooklaw17_first: function 14 -/
def daybooklaw17_first.f  : Option (Bool) := (H_Trial.f (([(⟨(⟨#[65]⟩ : ByteArray), 5, 0⟩ : S31), (⟨(⟨#[66, 58, 67]⟩ : ByteArray), 0, 12⟩ : S31)] : List (S31))) 1).bind fun bt219 => ((daybooklaw17_num.f bt219.2).bind fun t221 => (if t221 = 0 then (some (bt219.1.toList == ([65, 99, 99, 111, 117, 110, 116, 32, 32, 68, 101, 98, 105, 116, 32, 32, 67, 114, 101, 100, 105, 116, 10, 65, 32, 32, 32, 32, 32, 32, 32, 32, 32, 32, 48, 46, 53, 10, 66, 58, 67, 32, 32, 32, 32, 32, 32, 32, 32, 32, 32, 32, 32, 32, 32, 32, 32, 49, 46, 50, 10, 83, 117, 109, 32, 32, 32, 32, 32, 32, 32, 32, 48, 46, 53, 32, 32, 32, 32, 32, 49, 46, 50, 10] : List UInt8))) else (some false)))
set_option maxHeartbeats 8000000 in
set_option maxRecDepth 100000 in
theorem daybooklaw17_first.calls  (r : Bool) (w : World) (hL : Laid w) (h : daybooklaw17_first.f  = some r) :
    Calls Tryz.prog 14 #[] w fun e w' => e = .returned (.bool r) ∧ Below w.heap.size w w' := by
  have hu31 := Tryz.underlying31
  have HB := Aside0.mk (Below.refl w.heap.size w)
  have HLd := Aside0.mk hL
  clear hL
  have H : ((H_Trial.f (([(⟨(⟨#[65]⟩ : ByteArray), 5, 0⟩ : S31), (⟨(⟨#[66, 58, 67]⟩ : ByteArray), 0, 12⟩ : S31)] : List (S31))) 1).bind fun bt219 => ((daybooklaw17_num.f bt219.2).bind fun t221 => (if t221 = 0 then (some (bt219.1.toList == ([65, 99, 99, 111, 117, 110, 116, 32, 32, 68, 101, 98, 105, 116, 32, 32, 67, 114, 101, 100, 105, 116, 10, 65, 32, 32, 32, 32, 32, 32, 32, 32, 32, 32, 48, 46, 53, 10, 66, 58, 67, 32, 32, 32, 32, 32, 32, 32, 32, 32, 32, 32, 32, 32, 32, 32, 32, 49, 46, 50, 10, 83, 117, 109, 32, 32, 32, 32, 32, 32, 32, 32, 48, 46, 53, 32, 32, 32, 32, 32, 49, 46, 50, 10] : List UInt8))) else (some false)))) = some r := h
  clear h
  obtain ⟨y216, hy216⟩ : ∃ y_ : List (S31), y_ = (([(⟨(⟨#[65]⟩ : ByteArray), 5, 0⟩ : S31), (⟨(⟨#[66, 58, 67]⟩ : ByteArray), 0, 12⟩ : S31)] : List (S31))) := ⟨_, rfl⟩
  replace H : ((H_Trial.f y216 1).bind fun bt219 => ((daybooklaw17_num.f bt219.2).bind fun t221 => (if t221 = 0 then (some (bt219.1.toList == ([65, 99, 99, 111, 117, 110, 116, 32, 32, 68, 101, 98, 105, 116, 32, 32, 67, 114, 101, 100, 105, 116, 10, 65, 32, 32, 32, 32, 32, 32, 32, 32, 32, 32, 48, 46, 53, 10, 66, 58, 67, 32, 32, 32, 32, 32, 32, 32, 32, 32, 32, 32, 32, 32, 32, 32, 32, 49, 46, 50, 10, 83, 117, 109, 32, 32, 32, 32, 32, 32, 32, 32, 48, 46, 53, 32, 32, 32, 32, 32, 49, 46, 50, 10] : List UInt8))) else (some false)))) = some r := by first | (rw [hy216]; with_reducible exact H) | (have H2_ := (Option.bind_some _ _).symm.trans H; rw [hy216]; with_reducible exact H2_) | (have H2_ := (Option.bind_some _ _).symm.trans H; with_reducible exact H2_) | with_reducible exact H | (rw [hy216]; exact H) | exact H
  have Ny216 := Aside0.mk hy216
  clear hy216
  replace H := Option.bind_eq_some_iff.mp H
  obtain ⟨⟨t219, t220⟩, A10, H⟩ := H
  replace H : ((daybooklaw17_num.f t220).bind fun t221 => (if t221 = 0 then (some (t219.toList == ([65, 99, 99, 111, 117, 110, 116, 32, 32, 68, 101, 98, 105, 116, 32, 32, 67, 114, 101, 100, 105, 116, 10, 65, 32, 32, 32, 32, 32, 32, 32, 32, 32, 32, 48, 46, 53, 10, 66, 58, 67, 32, 32, 32, 32, 32, 32, 32, 32, 32, 32, 32, 32, 32, 32, 32, 32, 49, 46, 50, 10, 83, 117, 109, 32, 32, 32, 32, 32, 32, 32, 32, 48, 46, 53, 32, 32, 32, 32, 32, 49, 46, 50, 10] : List UInt8))) else (some false))) = some r := H
  have A1 := Aside0.mk A10
  clear A10
  replace H := Option.bind_eq_some_iff.mp H
  obtain ⟨t221, A20, H⟩ := H
  replace H : (if t221 = 0 then (some (t219.toList == ([65, 99, 99, 111, 117, 110, 116, 32, 32, 68, 101, 98, 105, 116, 32, 32, 67, 114, 101, 100, 105, 116, 10, 65, 32, 32, 32, 32, 32, 32, 32, 32, 32, 32, 48, 46, 53, 10, 66, 58, 67, 32, 32, 32, 32, 32, 32, 32, 32, 32, 32, 32, 32, 32, 32, 32, 32, 49, 46, 50, 10, 83, 117, 109, 32, 32, 32, 32, 32, 32, 32, 32, 48, 46, 53, 32, 32, 32, 32, 32, 49, 46, 50, 10] : List UInt8))) else (some false)) = some r := H
  have A2 := Aside0.mk A20
  clear A20
  by_cases c3 : t221 = 0
  · rw [if_pos c3] at H
    have c3b0 : (t221 == 0) = true := beq_iff_eq.mpr c3
    have c3b1 : (t221 != 0) = false := bne_eq_false_iff_eq.mpr c3
    clear c3
    obtain rfl := Option.some.inj H
    go_enter Tryz.func14, Tryz.ntmps14
    go_wp2_with (first | ((with_reducible refine gate_dst (N := 6) rfl ?_); refine Kd.R_lit k31 _ 31 ?hg (N := 6) ?hd (xs := ([(⟨(⟨#[65]⟩ : ByteArray), 5, 0⟩ : S31), (⟨(⟨#[66, 58, 67]⟩ : ByteArray), 0, 12⟩ : S31)] : List (S31))) (inner := [.string (⟨#[65]⟩ : ByteArray), .int .i64 5, .int .i64 0, .string (⟨#[66, 58, 67]⟩ : ByteArray), .int .i64 0, .int .i64 12]) (ok := fun _ => True) (okp := fun _ => True) ?hr ?hp (fun _ hk => hk) trivial (Below.refl _ _) (Nat.le_refl _) (by simp) ?_; (case hd => rfl); (case hg => rfl); (case hr => first | (go_simp; done) | (go_simp; rfl)); (case hp => exact (Reps.c3 (show Kd.M k31 _ _ _ (⟨(⟨#[65]⟩ : ByteArray), 5, 0⟩ : S31) [.string (⟨#[65]⟩ : ByteArray), .int .i64 5, .int .i64 0] from (k31_mkM _ _ _ (⟨(⟨#[65]⟩ : ByteArray), 5, 0⟩ : S31) )) (Reps.c3 (show Kd.M k31 _ _ _ (⟨(⟨#[66, 58, 67]⟩ : ByteArray), 0, 12⟩ : S31) [.string (⟨#[66, 58, 67]⟩ : ByteArray), .int .i64 0, .int .i64 12] from (k31_mkM _ _ _ (⟨(⟨#[66, 58, 67]⟩ : ByteArray), 0, 12⟩ : S31) )) (Reps.none _ _)))); intro v217 w4 ho5 hb hg_ hnew_; clear hg_ hnew_; (first | rw [← Ny216.out] at ho5 | (simp only [Int.reduceToNat] at ho5; rw [← Ny216.out] at ho5)); have n0_ := Aside0.mk (Kd.R_lower ho5 (below_size (by repeat (first | (with_reducible first | exact HB.out | apply below_alloc | apply pw_below_drewN | apply below_drew1) | exact HB.out)))); have n1_ := Aside0.mk (below_step (by repeat (first | (with_reducible first | exact HB.out | apply below_alloc | apply pw_below_drewN | apply below_drew1) | exact HB.out)) hb); clear HB; have HO218 := n0_; have HB := n1_; clear n0_ n1_; clear hb ho5; obtain ⟨Ao6, co6, eo6⟩ := Kd.R_slice HO218.out; subst eo6) | ((with_reducible refine gate_callee (f := 10) rfl ?_); refine goesL_ (some 7) rfl rfl Tryz.func10 (by kernel_rfl) rfl #[.slice Ao6 y216.length co6, .int .i64 1] rfl (by (try simp only [List.map_toArray, List.map_cons, List.map_nil]); first | done | rfl | (simp only [List.length_drop, List.length_take]; rfl)) ?_; (with_reducible refine (H_Trial.calls _ _ y216 1 t219 t220 _ ?side1 ?side2 ?side3 A1.out).mono ?_); (case side1 => repeat (first | exact (Kd.R_reads' HO218.out).2.2 | (with_reducible refine Kd.C_alloc ?_ _) | (with_reducible refine Kd.C_drewN ?_ _) | (with_reducible refine Kd.C_drew ?_))); (case side2 => exact (Kd.R_reads' HO218.out).2.1); (case side3 => first | exact HLd.out | exact Laid.below HLd.out (by repeat (first | (with_reducible first | exact HB.out | apply below_alloc | apply pw_below_drewN | apply below_drew1) | exact HB.out))); rintro e w7 ⟨rfl, hb⟩; refine ⟨_, rfl, ?_⟩; have n0_ := Aside0.mk (Kd.R_below (by (with_reducible repeat (first | apply Kd.R_alloc | apply Kd.R_drewN | apply Kd.R_drew)); exact HO218.out) hb); have n1_ := Aside0.mk (below_step (by repeat (first | (with_reducible first | exact HB.out | apply below_alloc | apply pw_below_drewN | apply below_drew1) | exact HB.out)) hb); clear HO218; clear HB; have HO218 := n0_; have HB := n1_; clear n0_ n1_; (try clear hb); (try clear hb2); (try clear hk); (try clear hi)) | ((with_reducible refine gate_callee (f := 35) rfl ?_); refine goesL_ (some 11) rfl rfl Tryz.func35 (by kernel_rfl) rfl #[.int .i64 t220] rfl (by (try simp only [List.map_toArray, List.map_cons, List.map_nil]); first | done | rfl | (simp only [List.length_drop, List.length_take]; rfl)) ?_; (with_reducible refine (daybooklaw17_num.calls t220 t221 _ A2.out).mono ?_); rintro e w' ⟨rfl, ⟨nd, rfl⟩⟩; refine ⟨_, rfl, ?_⟩))
    go_ret
    exact ⟨by first | rfl | (simp [errW_none, errW_some] <;> rfl) | (simp [*, errW_none, errW_some] <;> rfl), by repeat (first | (with_reducible first | exact HB.out | apply below_alloc | apply pw_below_drewN | apply below_drew1) | exact HB.out)⟩
  · rw [if_neg c3] at H
    have c3b0 : (t221 == 0) = false := beq_eq_false_iff_ne.mpr c3
    have c3b1 : (t221 != 0) = true := bne_iff_ne.mpr c3
    obtain rfl := Option.some.inj H
    go_enter Tryz.func14, Tryz.ntmps14
    go_wp2_with (first | ((with_reducible refine gate_dst (N := 6) rfl ?_); refine Kd.R_lit k31 _ 31 ?hg (N := 6) ?hd (xs := ([(⟨(⟨#[65]⟩ : ByteArray), 5, 0⟩ : S31), (⟨(⟨#[66, 58, 67]⟩ : ByteArray), 0, 12⟩ : S31)] : List (S31))) (inner := [.string (⟨#[65]⟩ : ByteArray), .int .i64 5, .int .i64 0, .string (⟨#[66, 58, 67]⟩ : ByteArray), .int .i64 0, .int .i64 12]) (ok := fun _ => True) (okp := fun _ => True) ?hr ?hp (fun _ hk => hk) trivial (Below.refl _ _) (Nat.le_refl _) (by simp) ?_; (case hd => rfl); (case hg => rfl); (case hr => first | (go_simp; done) | (go_simp; rfl)); (case hp => exact (Reps.c3 (show Kd.M k31 _ _ _ (⟨(⟨#[65]⟩ : ByteArray), 5, 0⟩ : S31) [.string (⟨#[65]⟩ : ByteArray), .int .i64 5, .int .i64 0] from (k31_mkM _ _ _ (⟨(⟨#[65]⟩ : ByteArray), 5, 0⟩ : S31) )) (Reps.c3 (show Kd.M k31 _ _ _ (⟨(⟨#[66, 58, 67]⟩ : ByteArray), 0, 12⟩ : S31) [.string (⟨#[66, 58, 67]⟩ : ByteArray), .int .i64 0, .int .i64 12] from (k31_mkM _ _ _ (⟨(⟨#[66, 58, 67]⟩ : ByteArray), 0, 12⟩ : S31) )) (Reps.none _ _)))); intro v217 w8 ho9 hb hg_ hnew_; clear hg_ hnew_; (first | rw [← Ny216.out] at ho9 | (simp only [Int.reduceToNat] at ho9; rw [← Ny216.out] at ho9)); have n0_ := Aside0.mk (Kd.R_lower ho9 (below_size (by repeat (first | (with_reducible first | exact HB.out | apply below_alloc | apply pw_below_drewN | apply below_drew1) | exact HB.out)))); have n1_ := Aside0.mk (below_step (by repeat (first | (with_reducible first | exact HB.out | apply below_alloc | apply pw_below_drewN | apply below_drew1) | exact HB.out)) hb); clear HB; have HO218 := n0_; have HB := n1_; clear n0_ n1_; clear hb ho9; obtain ⟨Ao10, co10, eo10⟩ := Kd.R_slice HO218.out; subst eo10) | ((with_reducible refine gate_callee (f := 10) rfl ?_); refine goesL_ (some 7) rfl rfl Tryz.func10 (by kernel_rfl) rfl #[.slice Ao10 y216.length co10, .int .i64 1] rfl (by (try simp only [List.map_toArray, List.map_cons, List.map_nil]); first | done | rfl | (simp only [List.length_drop, List.length_take]; rfl)) ?_; (with_reducible refine (H_Trial.calls _ _ y216 1 t219 t220 _ ?side1 ?side2 ?side3 A1.out).mono ?_); (case side1 => repeat (first | exact (Kd.R_reads' HO218.out).2.2 | (with_reducible refine Kd.C_alloc ?_ _) | (with_reducible refine Kd.C_drewN ?_ _) | (with_reducible refine Kd.C_drew ?_))); (case side2 => exact (Kd.R_reads' HO218.out).2.1); (case side3 => first | exact HLd.out | exact Laid.below HLd.out (by repeat (first | (with_reducible first | exact HB.out | apply below_alloc | apply pw_below_drewN | apply below_drew1) | exact HB.out))); rintro e w11 ⟨rfl, hb⟩; refine ⟨_, rfl, ?_⟩; have n0_ := Aside0.mk (Kd.R_below (by (with_reducible repeat (first | apply Kd.R_alloc | apply Kd.R_drewN | apply Kd.R_drew)); exact HO218.out) hb); have n1_ := Aside0.mk (below_step (by repeat (first | (with_reducible first | exact HB.out | apply below_alloc | apply pw_below_drewN | apply below_drew1) | exact HB.out)) hb); clear HO218; clear HB; have HO218 := n0_; have HB := n1_; clear n0_ n1_; (try clear hb); (try clear hb2); (try clear hk); (try clear hi)) | ((with_reducible refine gate_callee (f := 35) rfl ?_); refine goesL_ (some 11) rfl rfl Tryz.func35 (by kernel_rfl) rfl #[.int .i64 t220] rfl (by (try simp only [List.map_toArray, List.map_cons, List.map_nil]); first | done | rfl | (simp only [List.length_drop, List.length_take]; rfl)) ?_; (with_reducible refine (daybooklaw17_num.calls t220 t221 _ A2.out).mono ?_); rintro e w' ⟨rfl, ⟨nd, rfl⟩⟩; refine ⟨_, rfl, ?_⟩))
    go_ret
    exact ⟨by first | rfl | (simp [errW_none, errW_some] <;> rfl) | (simp [*, errW_none, errW_some] <;> rfl), by repeat (first | (with_reducible first | exact HB.out | apply below_alloc | apply pw_below_drewN | apply below_drew1) | exact HB.out)⟩

-- NOT PRINTED: function 3 (daybooklaw17_SheetTrials)

end Go.Proofs.YtmimninicegjcaaGreatDoor.QT
/- A row of columns with one written over. -/
namespace Go.Proofs.YtmimninicegjcaaGreatDoor
open Go.RowKit Go.Shelf Go.Lib Go.Proofs.YtmimninicegjcaaGreatDoorW.PrintWords
set_option linter.unusedVariables false
theorem mkz (j : Nat) (g : Nat) : (⟨g, 0, none⟩ : Addr).add j = ⟨g, j, none⟩ := by unfold Addr.add; split <;> simp_all
theorem cell_put3 {W : World} {g i : Nat} {a b c u : Value} (o : Nat) (h : W.cell? ⟨g, i, none⟩ = some u) (hne : i ≠ o ∧ i ≠ o + 1 ∧ i ≠ o + 2) :
    (((W.setCell ⟨g, o, none⟩ a).setCell ⟨g, o + 1, none⟩ b).setCell ⟨g, o + 2, none⟩ c).cell? ⟨g, i, none⟩ = some u := by
  have hd : ∀ m : Nat, i ≠ m → (⟨g, m, none⟩ : Addr) ≠ ⟨g, i, none⟩ := fun m hm he => hm (by injection he with _ h2; exact h2.symm)
  rw [World.cell?_setCell_other _ _ _ _ (hd _ hne.2.2), World.cell?_setCell_other _ _ _ _ (hd _ hne.2.1), World.cell?_setCell_other _ _ _ _ (hd _ hne.1)]
  exact h
theorem cols_put {W : World} {g t : Nat} {cur : Array Value} {xs : List Col} {j : Nat} (hj : j < xs.length) (x : Col) (hb : W.heap[g]? = some (.cells cur t (0, 0))) (h : Kd.C QT.k31 W (some ⟨g, 0, none⟩) xs.length xs) :
    Kd.C QT.k31 (((W.setCell ⟨g, j * 3, none⟩ (.string x.f0)).setCell ⟨g, j * 3 + 1, none⟩ (.int .i64 x.f1)).setCell ⟨g, j * 3 + 2, none⟩ (.int .i64 x.f2)) (some ⟨g, 0, none⟩) (xs.set j x).length (xs.set j x) := by
  obtain ⟨h1, h2, h3⟩ := h
  have hsz : j * 3 + 3 ≤ cur.size := by
    obtain ⟨ad, e, hc⟩ := h3 (by omega)
    obtain rfl := Option.some.inj e
    obtain ⟨c, hl, hk, hcell⟩ := hc j _ (List.getElem?_eq_getElem hj)
    have hl3 : c.length = 3 := hl
    have := hcell 2 c[2] (List.getElem?_eq_getElem (by omega))
    rw [mkz] at this
    have e2 := (blk_cell hb (j * 3 + 2)).symm.trans (show W.cell? ⟨g, j * 3 + 2, none⟩ = _ from this)
    have := (Array.getElem?_eq_some_iff.1 e2).1
    omega
  refine ⟨rfl, by rw [List.length_set]; exact h2, fun hp => ⟨_, rfl, fun i p hip => ?_⟩⟩
  have hil : i < (xs.set j x).length := (List.getElem?_eq_some_iff.1 hip).1
  rw [List.length_set] at hil
  by_cases hij : i = j
  · subst hij
    rw [List.getElem?_set_self hj] at hip
    obtain rfl := Option.some.inj hip
    refine ⟨[.string x.f0, .int .i64 x.f1, .int .i64 x.f2], rfl, QT.k31_mk _ x, fun m u hm => ?_⟩
    rw [mkz]
    have hbb := blk_set (blk_set (blk_set hb (i * 3) (.string x.f0)) (i * 3 + 1) (.int .i64 x.f1)) (i * 3 + 2) (.int .i64 x.f2)
    have hm3 : m < 3 := (List.getElem?_eq_some_iff.1 hm).1
    refine (blk_cell hbb (i * 3 + m)).trans ?_
    have : m = 0 ∨ m = 1 ∨ m = 2 := by omega
    rcases this with rfl | rfl | rfl
    · rw [← hm, Array.getElem?_setIfInBounds_ne (by omega), Array.getElem?_setIfInBounds_ne (by omega)]
      rw [show i * 3 + 0 = i * 3 from rfl, Array.getElem?_setIfInBounds_self_of_lt (by omega)]
      rfl
    · rw [← hm, Array.getElem?_setIfInBounds_ne (by omega), Array.getElem?_setIfInBounds_self_of_lt (by rw [Array.size_setIfInBounds]; omega)]
      rfl
    · rw [← hm, Array.getElem?_setIfInBounds_self_of_lt (by rw [Array.size_setIfInBounds, Array.size_setIfInBounds]; omega)]
      rfl
  · rw [List.getElem?_set_ne (Ne.symm hij)] at hip
    obtain ⟨ad, e, hc⟩ := h3 (by omega)
    obtain rfl := Option.some.inj e
    obtain ⟨c, hl, hk, hcell⟩ := hc i p hip
    have hl3 : c.length = 3 := hl
    have hk2 := QT.k31_open hk
    refine ⟨c, hl, by rw [hk2]; exact QT.k31_mk _ p, fun m u hm => ?_⟩
    have hm3 : m < 3 := by rw [← hl3]; exact (List.getElem?_eq_some_iff.1 hm).1
    have h4 := hcell m u hm
    rw [mkz] at h4 ⊢
    have hs3 : QT.k31.sz = 3 := rfl
    rw [hs3] at h4 ⊢
    exact cell_put3 (j * 3) h4 ⟨by omega, by omega, by omega⟩
end Go.Proofs.YtmimninicegjcaaGreatDoor
/- The walk of SheetTrials, over what its callees compute. -/
namespace Go.Proofs.YtmimninicegjcaaGreatDoor
open Go.RowKit Go.Shelf Go.Lib Go.Proofs.YtmimninicegjcaaGreatDoorW.PrintWords Go.Proofs.YtmimninicegjcaaGreatDoorW.PrintLast Go.Proofs.YtmimninicegjcaaGreatDoorW.PrintMore
set_option linter.unusedVariables false
set_option linter.unusedSimpArgs false
set_option maxRecDepth 100000 in
set_option maxHeartbeats 4000000 in
/-- Of a copy and a list: KeptColumns says that it is kept. -/
def KeptOk (c l : List Col) : Prop := ∀ (W : World) (A0 : Option Addr) (c0 : Nat) (A1 : Option Addr) (c1 : Nat), Kd.C QT.k31 W A0 c.length c → c.length ≤ c0 → Kd.C QT.k31 W A1 l.length l → l.length ≤ c1 → Laid W →
    Calls Tryz.prog 13 #[.slice A0 c.length c0, .slice A1 l.length c1] W fun e_ w' => e_ = .returned (.bool true) ∧ Below W.heap.size W w'
theorem law_walk (k : Nat) (A : Option Addr) (cp : Nat) (l rm now : List Col) (d : Int) (w : World) (hr : Kd.C QT.k31 w A l.length l) (hc : l.length ≤ cp) (hL : Laid w) (hn : l.length ≤ 1048576)
    (s : ByteArray) (e : Int) (s2 : ByteArray) (e2 : Int)
    (hroom : QT.daybookkeep_RoomColumns.f k l = some rm) (htake : rm.take l.length = l) (hlen : l.length < rm.length)
    (hT : H_Trial.f l d = some (s, e)) (hR : QT.daybookref17_Trial.f k l d = some (s, e)) (hlk : QT.daybooklaw17_like.f s e s e = some true)
    (hK : KeptOk rm l) (hF : QT.daybooklaw17_first.f = some true)
    (hnow : now = if 0 < l.length then l.set (l.length / 2) ⟨⟨#[90, 122]⟩, 3, 0⟩ else l)
    (hT2 : H_Trial.f now d = some (s2, e2)) (hR2 : QT.daybookref17_Trial.f k now d = some (s2, e2)) (hlk2 : QT.daybooklaw17_like.f s2 e2 s2 e2 = some true)
    (hK2 : KeptOk (if 0 < l.length then rm.set (l.length / 2) ⟨⟨#[90, 122]⟩, 3, 0⟩ else rm) now) :
    Calls Tryz.prog 3 #[.slice A l.length cp, .int .i64 d] w fun en w' => en = .returned (.bool true) ∧ Below w.heap.size w w' := by
  have HR := Aside0.mk hr
  have HC := Aside0.mk hc
  have HL := Aside0.mk hL
  have HN := Aside0.mk hn
  have HROOM := Aside0.mk hroom
  have HTAKE := Aside0.mk htake
  have HLEN := Aside0.mk hlen
  have HT := Aside0.mk hT
  have HRT := Aside0.mk hR
  have HLK := Aside0.mk hlk
  have HK := Aside0.mk hK
  have HF := Aside0.mk hF
  have HNOW := Aside0.mk hnow
  have HT2 := Aside0.mk hT2
  have HRT2 := Aside0.mk hR2
  have HLK2 := Aside0.mk hlk2
  have HK2 := Aside0.mk hK2
  have i0 : (l.length : Int) ≤ 1048576 := by omega
  clear hr hc hL hn hroom htake hlen hT hR hlk hK hF hnow hT2 hR2 hlk2 hK2
  go_enter Tryz.func3, Tryz.ntmps3
  go_wp2_with fail
  refine (QT.daybookkeep_RoomColumns.calls k A cp l rm _ HR.out HC.out HL.out HROOM.out).mono ?_
  rintro en w1 ⟨v0, rfl, ho, hb⟩
  obtain ⟨A5, c5, rfl⟩ := Kd.R_slice ho
  have h5 := Kd.R_reads' ho
  have hform := Kd.R_form ho (by have := HLEN.out; omega)
  obtain ⟨g, cap, he, hg1, hg2, cur, hcur⟩ := hform
  simp only [Value.slice.injEq] at he
  obtain ⟨rfl, -, rfl⟩ := he
  have HC5 := Aside0.mk h5.2.2
  have HCL5 := Aside0.mk h5.2.1
  have HCUR := Aside0.mk hcur
  have HB := Aside0.mk hb
  have HG1 := Aside0.mk hg1
  have HC6 : Aside0 (Kd.C QT.k31 w1 (some ⟨g, 0, none⟩) l.length l) := ⟨by
    have := Kd.C_take h5.2.2 (Nat.le_of_lt HLEN.out)
    rwa [HTAKE.out] at this⟩
  have i1 : (l.length : Int) ≤ (c5 : Int) := by have := HLEN.out; have := h5.2.1; omega
  have HCC : Aside0 (l.length ≤ c5) := ⟨by have := HLEN.out; have := h5.2.1; omega⟩
  clear ho h5 hcur hb hg1 hg2
  go_wp2_with fail
  refine (H_Trial.calls _ c5 l d s e _ HC6.out HCC.out (HL.out.below HB.out) HT.out).mono ?_
  rintro en w2 ⟨rfl, hb2⟩
  have HB2 := Aside0.mk (below_step HB.out hb2)
  have HC52 := Aside0.mk (Kd.C_below HC5.out hb2)
  have HC62 := Aside0.mk (Kd.C_below HC6.out hb2)
  have HCUR2 := Aside0.mk ((hb2.block _ (blk_lt HCUR.out)).trans HCUR.out)
  clear hb2 HC5 HC6 HCUR
  go_wp2_with fail
  refine (QT.daybookref17_Trial.calls k A cp l d s e _ (Kd.C_below HR.out HB2.out) HC.out HRT.out).mono ?_
  rintro en w3 ⟨rfl, hb3⟩
  have HB3 := Aside0.mk (below_step HB2.out hb3)
  have HC53 := Aside0.mk (Kd.C_below HC52.out hb3)
  have HC63 := Aside0.mk (Kd.C_below HC62.out hb3)
  have HCUR3 := Aside0.mk ((hb3.block _ (blk_lt HCUR2.out)).trans HCUR2.out)
  clear hb3 HC52 HC62 HCUR2
  go_wp2_with fail
  refine (QT.daybooklaw17_like.calls s e s e _ _ HLK.out).mono ?_
  rintro en w4 ⟨rfl, n4, rfl⟩
  go_wp2_with fail
  refine (HK.out _ _ c5 A cp (Kd.C_drewN HC53.out _) HCL5.out (Kd.C_below HR.out (pw_below_drewN HB3.out _)) HC.out (HL.out.below (pw_below_drewN HB3.out _))).mono ?_
  rintro en w5 ⟨rfl, hb5⟩
  have HB5 := Aside0.mk (below_step (pw_below_drewN HB3.out _) hb5)
  have HC55 := Aside0.mk (Kd.C_below (Kd.C_drewN HC53.out _) hb5)
  have HC65 := Aside0.mk (Kd.C_below (Kd.C_drewN HC63.out _) hb5)
  have HCUR5 := Aside0.mk ((hb5.block _ (blk_lt HCUR3.out)).trans HCUR3.out)
  clear hb5 HC53 HC63 HCUR3
  go_wp2_with fail
  refine (QT.daybooklaw17_first.calls _ _ (HL.out.below HB5.out) HF.out).mono ?_
  rintro en w6 ⟨rfl, hb6⟩
  have HB6 := Aside0.mk (below_step HB5.out hb6)
  have HC56 := Aside0.mk (Kd.C_below HC55.out hb6)
  have HC66 := Aside0.mk (Kd.C_below HC65.out hb6)
  have HCUR6 := Aside0.mk ((hb6.block _ (blk_lt HCUR5.out)).trans HCUR5.out)
  clear hb6 HC55 HC65 HCUR5
  by_cases hpos : 0 < l.length
  · obtain ⟨j, hjj⟩ : ∃ j, l.length / 2 = j := ⟨_, rfl⟩
    have hnw : now = l.set j ⟨⟨#[90, 122]⟩, 3, 0⟩ := by have := HNOW.out; rwa [if_pos hpos, hjj] at this
    have hk2 := HK2.out
    rw [if_pos hpos, hjj] at hk2
    have hnl : now.length = l.length := by rw [hnw, List.length_set]
    have HNL := Aside0.mk hnl
    have hcl := cols_at HC66.out
    have hj : j < l.length := by omega
    have HT2C : Aside0 (∀ W, Kd.C QT.k31 W (some ⟨g, 0, none⟩) now.length now → Laid W → Calls Tryz.prog 10 #[.slice (some ⟨g, 0, none⟩) l.length c5, .int .i64 d] W fun e_ w' => e_ = .returned (.tuple #[.string s2, .int .i64 e2]) ∧ Below W.heap.size W w') := ⟨fun W h1 h2 => by
      have := H_Trial.calls (some ⟨g, 0, none⟩) c5 now d s2 e2 W h1 (by rw [hnl]; exact HCC.out) h2 HT2.out
      rwa [hnl] at this⟩
    have HK2C : Aside0 (∀ W, Kd.C QT.k31 W (some ⟨g, 0, none⟩) (rm.set (j) ⟨⟨#[90, 122]⟩, 3, 0⟩).length (rm.set (j) ⟨⟨#[90, 122]⟩, 3, 0⟩) → ∀ A8 c8, Kd.C QT.k31 W A8 now.length now → now.length ≤ c8 → Laid W →
        Calls Tryz.prog 13 #[.slice (some ⟨g, 0, none⟩) rm.length c5, .slice A8 now.length c8] W fun e_ w' => e_ = .returned (.bool true) ∧ Below W.heap.size W w') := ⟨fun W h1 A8 c8 h2 h3 h4 => by
      have := hk2 W _ c5 A8 c8 h1 (by rw [List.length_set]; exact HCL5.out) h2 h3 h4
      rwa [List.length_set] at this⟩
    have HCA : Aside0 (Kd.C QT.k31 (((w6.setCell ⟨g, j * 3, none⟩ (.string ⟨#[90, 122]⟩)).setCell ⟨g, j * 3 + 1, none⟩ (.int .i64 3)).setCell ⟨g, j * 3 + 2, none⟩ (.int .i64 0)) (some ⟨g, 0, none⟩) now.length now) := ⟨by
      rw [hnw]; exact cols_put hj ⟨⟨#[90, 122]⟩, 3, 0⟩ HCUR6.out HC66.out⟩
    have HCB := Aside0.mk (cols_put (Nat.lt_trans hj HLEN.out) ⟨⟨#[90, 122]⟩, 3, 0⟩ HCUR6.out HC56.out)
    have HBM : Aside0 (Below w.heap.size w (((w6.setCell ⟨g, j * 3, none⟩ (.string ⟨#[90, 122]⟩)).setCell ⟨g, j * 3 + 1, none⟩ (.int .i64 3)).setCell ⟨g, j * 3 + 2, none⟩ (.int .i64 0))) := ⟨((HB6.out.setCell HG1.out _).setCell HG1.out _).setCell HG1.out _⟩
    obtain ⟨c0, c1, c2⟩ := hcl.2 _ rfl (j) hj
    rw [mkz] at c0 c1 c2
    have f0 := blk_frozen HCUR6.out (j * 3)
    have f1 := blk_frozen HCUR6.out (j * 3 + 1)
    have f2 := blk_frozen HCUR6.out (j * 3 + 2)
    have hp1 : decide ((0 : Int) < (l.length : Int)) = true := decide_eq_true (by omega)
    have hp2 : decide (0 < l.length) = true := decide_eq_true hpos
    have q1 : (l.length : Int).tdiv 2 = (j : Int) := by rw [Int.tdiv_eq_ediv_of_nonneg (by omega)]; omega
    have q2 : (l.length : Int) / 2 = (j : Int) := by omega
    have i2 : (j : Int) < (l.length : Int) := by omega
    have i3 : (0 : Int) ≤ (j : Int) := by omega
    clear hcl hpos hnl hnw hk2 hjj
    go_wp2_with (first
      | ((with_reducible refine gate_dst (N := 55) rfl ?_); refine Kd.R_lit QT.k31 _ 31 ?hg (N := 55) ?hd (xs := ([] : List Col)) (inner := []) (ok := fun _ => True) (okp := fun _ => True) ?hr ?hp (fun _ hk => hk) trivial (Below.refl _ _) (Nat.le_refl _) (by simp) ?_; (case hd => rfl); (case hg => rfl); (case hr => first | (go_simp; done) | (go_simp; rfl)); (case hp => exact (Reps.none _ _)); intro v7 w7 ho7 hb7 hg7 hn7; have HO7 := Aside0.mk ho7; have HB7 := Aside0.mk hb7; have HCA7 := Aside0.mk (Kd.C_below HCA.out hb7); clear ho7 hb7 hg7 hn7)
      | ((with_reducible refine gate_builtin (b := .append) (xs := #[.tmp 55, .tmp 56]) rfl ?_); at_builtin; refine Kd.R_append_rows QT.k31 (w0 := _) _ rfl (.tmp 55) (.tmp 56) 22 31 (.agg #[(.string ⟨#[]⟩), (.int .i64 0), (.int .i64 0)]) 32 rfl Tryz.underlying22 QT.info31 rfl (by decide) (by decide) v7 [] now _ _ _ (fun _ => True) (fun _ => False) rfl rfl HO7.out ?aR (fun _ _ h => h) (fun _ h => h.elim) (fun _ _ => trivial) HB7.out HB7.out.size ?aL ?_; (case aR => first | exact HCA7.out | (have h_ := HCA7.out; rw [HNL.out] at h_; exact h_)); (case aL => (have := HN.out; simp; omega)); intro v8 w8 ho8 hb8 hgr8 hat8; (try rw [List.nil_append] at ho8); have HCA8 := Aside0.mk (Kd.C_below HCA.out hb8); have HCB8 := Aside0.mk (Kd.C_below HCB.out hb8); have HB8 := Aside0.mk (below_step HBM.out hb8); have HO8 := Aside0.mk ho8; obtain ⟨A8, c8, e8⟩ := Kd.R_slice ho8; subst e8; clear ho8 hb8 hgr8 hat8))
    refine (HT2C.out _ HCA8.out (HL.out.below HB8.out)).mono ?_
    rintro en w9 ⟨rfl, hb9⟩
    have HCB9 := Aside0.mk (Kd.C_below HCB8.out hb9)
    have HO9 := Aside0.mk (Kd.R_below HO8.out hb9)
    have HB9 := Aside0.mk (below_step HB8.out hb9)
    clear hb9 HO8 HCA8 HCB8
    go_wp2_with fail
    refine (QT.daybookref17_Trial.calls k A8 c8 now d s2 e2 _ (Kd.R_reads' HO9.out).2.2 (by have h_ := (Kd.R_reads' HO9.out).2.1; exact h_) HRT2.out).mono ?_
    rintro en w10 ⟨rfl, hb10⟩
    have HCB10 := Aside0.mk (Kd.C_below HCB9.out hb10)
    have HO10 := Aside0.mk (Kd.R_below HO9.out hb10)
    have HB10 := Aside0.mk (below_step HB9.out hb10)
    clear hb10 HO9 HCB9
    go_wp2_with fail
    refine (QT.daybooklaw17_like.calls s2 e2 s2 e2 _ _ HLK2.out).mono ?_
    rintro en w11 ⟨rfl, n11, rfl⟩
    go_wp2_with fail
    refine (HK2C.out _ (Kd.C_drewN HCB10.out _) A8 c8 (Kd.C_drewN (Kd.R_reads' HO10.out).2.2 _) (Kd.R_reads' HO10.out).2.1 (HL.out.below (pw_below_drewN HB10.out _))).mono ?_
    rintro en w12 ⟨rfl, hb12⟩
    have HB12 := Aside0.mk (below_step (pw_below_drewN HB10.out _) hb12)
    clear hb12
    go_wp2_with fail
    go_ret
    exact ⟨rfl, HB12.out⟩
  · have hl0 : l = [] := List.length_eq_zero_iff.1 (by omega)
    have hnw : now = l := by have := HNOW.out; rwa [if_neg hpos] at this
    have hk2 := HK2.out
    rw [if_neg hpos] at hk2
    subst hnw
    have HNL := Aside0.mk (rfl : now.length = now.length)
    have HT2C : Aside0 (∀ W, Kd.C QT.k31 W (some ⟨g, 0, none⟩) now.length now → Laid W → Calls Tryz.prog 10 #[.slice (some ⟨g, 0, none⟩) now.length c5, .int .i64 d] W fun e_ w' => e_ = .returned (.tuple #[.string s2, .int .i64 e2]) ∧ Below W.heap.size W w') := ⟨fun W h1 h2 =>
      H_Trial.calls (some ⟨g, 0, none⟩) c5 now d s2 e2 W h1 HCC.out h2 HT2.out⟩
    have HK2C : Aside0 (∀ W, Kd.C QT.k31 W (some ⟨g, 0, none⟩) rm.length rm → ∀ A8 c8, Kd.C QT.k31 W A8 now.length now → now.length ≤ c8 → Laid W →
        Calls Tryz.prog 13 #[.slice (some ⟨g, 0, none⟩) rm.length c5, .slice A8 now.length c8] W fun e_ w' => e_ = .returned (.bool true) ∧ Below W.heap.size W w') := ⟨fun W h1 A8 c8 h2 h3 h4 =>
      hk2 W _ c5 A8 c8 h1 HCL5.out h2 h3 h4⟩
    have HCA := HC66
    have HCB := HC56
    have HBM := HB6
    have hp1 : decide ((0 : Int) < (now.length : Int)) = false := decide_eq_false (by omega)
    have hp2 : decide (0 < now.length) = false := decide_eq_false hpos
    clear hpos hk2 hl0
    go_wp2_with (first
      | ((with_reducible refine gate_dst (N := 55) rfl ?_); refine Kd.R_lit QT.k31 _ 31 ?hg (N := 55) ?hd (xs := ([] : List Col)) (inner := []) (ok := fun _ => True) (okp := fun _ => True) ?hr ?hp (fun _ hk => hk) trivial (Below.refl _ _) (Nat.le_refl _) (by simp) ?_; (case hd => rfl); (case hg => rfl); (case hr => first | (go_simp; done) | (go_simp; rfl)); (case hp => exact (Reps.none _ _)); intro v7 w7 ho7 hb7 hg7 hn7; have HO7 := Aside0.mk ho7; have HB7 := Aside0.mk hb7; have HCA7 := Aside0.mk (Kd.C_below HCA.out hb7); clear ho7 hb7 hg7 hn7)
      | ((with_reducible refine gate_builtin (b := .append) (xs := #[.tmp 55, .tmp 56]) rfl ?_); at_builtin; refine Kd.R_append_rows QT.k31 (w0 := _) _ rfl (.tmp 55) (.tmp 56) 22 31 (.agg #[(.string ⟨#[]⟩), (.int .i64 0), (.int .i64 0)]) 32 rfl Tryz.underlying22 QT.info31 rfl (by decide) (by decide) v7 [] now _ _ _ (fun _ => True) (fun _ => False) rfl rfl HO7.out ?aR (fun _ _ h => h) (fun _ h => h.elim) (fun _ _ => trivial) HB7.out HB7.out.size ?aL ?_; (case aR => first | exact HCA7.out | (have h_ := HCA7.out; rw [HNL.out] at h_; exact h_)); (case aL => (have := HN.out; simp; omega)); intro v8 w8 ho8 hb8 hgr8 hat8; (try rw [List.nil_append] at ho8); have HCA8 := Aside0.mk (Kd.C_below HCA.out hb8); have HCB8 := Aside0.mk (Kd.C_below HCB.out hb8); have HB8 := Aside0.mk (below_step HBM.out hb8); have HO8 := Aside0.mk ho8; obtain ⟨A8, c8, e8⟩ := Kd.R_slice ho8; subst e8; clear ho8 hb8 hgr8 hat8))
    refine (HT2C.out _ HCA8.out (HL.out.below HB8.out)).mono ?_
    rintro en w9 ⟨rfl, hb9⟩
    have HCB9 := Aside0.mk (Kd.C_below HCB8.out hb9)
    have HO9 := Aside0.mk (Kd.R_below HO8.out hb9)
    have HB9 := Aside0.mk (below_step HB8.out hb9)
    clear hb9 HO8 HCA8 HCB8
    go_wp2_with fail
    refine (QT.daybookref17_Trial.calls k A8 c8 now d s2 e2 _ (Kd.R_reads' HO9.out).2.2 (by have h_ := (Kd.R_reads' HO9.out).2.1; exact h_) HRT2.out).mono ?_
    rintro en w10 ⟨rfl, hb10⟩
    have HCB10 := Aside0.mk (Kd.C_below HCB9.out hb10)
    have HO10 := Aside0.mk (Kd.R_below HO9.out hb10)
    have HB10 := Aside0.mk (below_step HB9.out hb10)
    clear hb10 HO9 HCB9
    go_wp2_with fail
    refine (QT.daybooklaw17_like.calls s2 e2 s2 e2 _ _ HLK2.out).mono ?_
    rintro en w11 ⟨rfl, n11, rfl⟩
    go_wp2_with fail
    refine (HK2C.out _ (Kd.C_drewN HCB10.out _) A8 c8 (Kd.C_drewN (Kd.R_reads' HO10.out).2.2 _) (Kd.R_reads' HO10.out).2.1 (HL.out.below (pw_below_drewN HB10.out _))).mono ?_
    rintro en w12 ⟨rfl, hb12⟩
    have HB12 := Aside0.mk (below_step (pw_below_drewN HB10.out _) hb12)
    clear hb12
    go_wp2_with fail
    go_ret
    exact ⟨rfl, HB12.out⟩
end Go.Proofs.YtmimninicegjcaaGreatDoor
-- Written by a program of this session (wip/myprint.py, which drives the kit's print with hand-proved leaves). Not trusted: Lean checks it.
namespace Go.Proofs.YtmimninicegjcaaGreatDoor.QT
open Go.RowKit Go.Proofs.YtmimninicegjcaaGreatDoorW.PrintWords Go.Proofs.YtmimninicegjcaaGreatDoorW.PrintLast Go.Proofs.YtmimninicegjcaaGreatDoorW.PrintMore
attribute [local go_sem] max2_int min2_int max_two min_two max_three min_three max_four min_four   -- for this text's walks alone
set_option linter.unusedVariables false
set_option linter.unusedSimpArgs false

theorem eqA31 (d : Nat) (w : World) (x0 y0 : ByteArray) (x1 y1 : Int) (x2 y2 : Int) :
    (Op.equalIn (d + 2) 31 (.agg #[.string x0, .int .i64 x1, .int .i64 x2]) (.agg #[.string y0, .int .i64 y1, .int .i64 y2])).run Tryz.prog w = .ok (x0.toList == y0.toList && (x1 == y1 && (x2 == y2))) w := by
  refine eqA_of Tryz.underlying31 (by kernel_rfl) ?_
  refine eqf_cons (by rfl) (by go_simp; rfl) (by go_simp; rfl) (by go_simp) ?_
  refine eqf_cons (by rfl) (by go_simp; rfl) (by go_simp; rfl) (by go_simp) ?_
  exact eqf_last (by rfl) (by go_simp; rfl) (by go_simp; rfl) (by go_simp)
end Go.Proofs.YtmimninicegjcaaGreatDoor.QT
-- Written by a program of this session (wip/myprint.py, which drives the kit's print with hand-proved leaves). Not trusted: Lean checks it.
namespace Go.Proofs.YtmimninicegjcaaGreatDoor.QT
open Go.RowKit Go.Proofs.YtmimninicegjcaaGreatDoorW.PrintWords Go.Proofs.YtmimninicegjcaaGreatDoorW.PrintLast Go.Proofs.YtmimninicegjcaaGreatDoorW.PrintMore
attribute [local go_sem] max2_int min2_int max_two min_two max_three min_three max_four min_four   -- for this text's walks alone
set_option linter.unusedVariables false
set_option linter.unusedSimpArgs false

attribute [local go_sem high] eqA31
/-! ### daybookkeep_sameColumns: function 53 -/
def daybookkeep_sameColumns.f (a0_0 : ByteArray) (a0_1 : Int) (a0_2 : Int) (a1_0 : ByteArray) (a1_1 : Int) (a1_2 : Int) : Option (Bool) := some (a0_0.toList == a1_0.toList && (a0_1 == a1_1 && (a0_2 == a1_2)))
set_option maxHeartbeats 8000000 in
set_option maxRecDepth 100000 in
theorem daybookkeep_sameColumns.calls (a0_0 : ByteArray) (a0_1 : Int) (a0_2 : Int) (a1_0 : ByteArray) (a1_1 : Int) (a1_2 : Int) (r : Bool) (w : World) (h : daybookkeep_sameColumns.f a0_0 a0_1 a0_2 a1_0 a1_1 a1_2 = some r) :
    Calls Tryz.prog 53 #[.agg #[.string a0_0, .int .i64 a0_1, .int .i64 a0_2], .agg #[.string a1_0, .int .i64 a1_1, .int .i64 a1_2]] w fun e w' => e = .returned (.bool r) ∧ Below w.heap.size w w' := by
  have hu31 := Tryz.underlying31
  have HB := Aside0.mk (Below.refl w.heap.size w)
  have H : (some (a0_0.toList == a1_0.toList && (a0_1 == a1_1 && (a0_2 == a1_2)))) = some r := h
  clear h
  obtain rfl := Option.some.inj H
  go_enter Tryz.func53, Tryz.ntmps53
  go_wp2_with (first | ((with_reducible refine gate_dst (N := 2) rfl ?_); refine box_event ?hg (N := 2) ?hd (cs := #[.string a0_0, .int .i64 a0_1, .int .i64 a0_2]) (t := 31) ?hr ?_; (case hd => rfl); (case hg => rfl); (case hr => first | (go_simp; done) | (go_simp; rfl)); intro gb201 hg w3 hbox hb; have n0_ := Aside0.mk (below_step (by repeat (first | (with_reducible first | exact HB.out | apply below_alloc | apply pw_below_drewN | apply below_drew1) | exact HB.out)) hb); have n1_ := Aside0.mk (hbox); have n2_ := Aside0.mk ((by rw [hg]; exact (below_size (by repeat (first | (with_reducible first | exact HB.out | apply below_alloc | apply pw_below_drewN | apply below_drew1) | exact HB.out))) : w.heap.size ≤ gb201)); have n3_ := Aside0.mk ((by rw [hg]; exact (below_size (by repeat (first | (with_reducible first | exact HB.out | apply below_alloc | apply pw_below_drewN | apply below_drew1) | exact HB.out))) : w.heap.size ≤ gb201)); clear HB; have HB := n0_; have BK201 := n1_; have GW201 := n2_; have GE201 := n3_; clear n0_ n1_ n2_ n3_; clear hb hbox hg) | ((with_reducible refine gate_dst (N := 3) rfl ?_); refine box_event ?hg (N := 3) ?hd (cs := #[.string a1_0, .int .i64 a1_1, .int .i64 a1_2]) (t := 31) ?hr ?_; (case hd => rfl); (case hg => rfl); (case hr => first | (go_simp; done) | (go_simp; rfl)); intro gb202 hg w4 hbox hb; have n0_ := Aside0.mk (blk_below (g := gb201) (o := .cells #[.string a0_0, .int .i64 a0_1, .int .i64 a0_2] 31 (0, 0)) (by (with_reducible repeat (first | refine blk_drewN ?_ _ | refine blk_drew ?_ | refine blk_alloc ?_ _)); exact BK201.out) hb); have n1_ := Aside0.mk (below_step (by repeat (first | (with_reducible first | exact HB.out | apply below_alloc | apply pw_below_drewN | apply below_drew1 | refine below_set ?_ GE201.out) | exact HB.out)) hb); have n2_ := Aside0.mk (hbox); have n3_ := Aside0.mk ((by rw [hg]; exact (below_size (by repeat (first | (with_reducible first | exact HB.out | apply below_alloc | apply pw_below_drewN | apply below_drew1 | refine below_set ?_ GE201.out) | exact HB.out))) : w.heap.size ≤ gb202)); have n4_ := Aside0.mk ((by rw [hg]; exact (below_size (by repeat (first | (with_reducible first | exact HB.out | apply below_alloc | apply pw_below_drewN | apply below_drew1 | refine below_set ?_ GE201.out) | exact HB.out))) : w.heap.size ≤ gb202)); have n5_ := Aside0.mk ((by rw [hg]; exact Nat.ne_of_lt (blk_lt (g := gb201) (o := .cells #[.string a0_0, .int .i64 a0_1, .int .i64 a0_2] 31 (0, 0)) (by (with_reducible repeat (first | refine blk_drewN ?_ _ | refine blk_drew ?_ | refine blk_alloc ?_ _)); exact BK201.out)) : gb201 ≠ gb202)); have n6_ := Aside0.mk ((by rw [hg]; exact Nat.ne_of_gt (blk_lt (g := gb201) (o := .cells #[.string a0_0, .int .i64 a0_1, .int .i64 a0_2] 31 (0, 0)) (by (with_reducible repeat (first | refine blk_drewN ?_ _ | refine blk_drew ?_ | refine blk_alloc ?_ _)); exact BK201.out)) : gb202 ≠ gb201)); clear BK201; clear HB; have BK201 := n0_; have HB := n1_; have BK202 := n2_; have GW202 := n3_; have GE202 := n4_; have NB201_202 := n5_; have NB202_201 := n6_; clear n0_ n1_ n2_ n3_ n4_ n5_ n6_; clear hb hbox hg; have hnb5 := NB201_202.out; have hnc5 := NB202_201.out; have hcz6_0 : w4.cell? ⟨gb201, 0, none⟩ = some (.string a0_0) := (blk_cell BK201.out 0).trans rfl; have hcz6_1 : w4.cell? ⟨gb201, 1, none⟩ = some (.int .i64 a0_1) := (blk_cell BK201.out 1).trans rfl; have hcz6_2 : w4.cell? ⟨gb201, 2, none⟩ = some (.int .i64 a0_2) := (blk_cell BK201.out 2).trans rfl; have hfz6_0 := blk_frozen BK201.out 0; have hfz6_1 := blk_frozen BK201.out 1; have hfz6_2 := blk_frozen BK201.out 2; have hcz7_0 : w4.cell? ⟨gb202, 0, none⟩ = some (.string a1_0) := (blk_cell BK202.out 0).trans rfl; have hcz7_1 : w4.cell? ⟨gb202, 1, none⟩ = some (.int .i64 a1_1) := (blk_cell BK202.out 1).trans rfl; have hcz7_2 : w4.cell? ⟨gb202, 2, none⟩ = some (.int .i64 a1_2) := (blk_cell BK202.out 2).trans rfl; have hfz7_0 := blk_frozen BK202.out 0; have hfz7_1 := blk_frozen BK202.out 1; have hfz7_2 := blk_frozen BK202.out 2))
  go_ret
  exact ⟨by first | rfl | (simp [errW_none, errW_some] <;> rfl) | (simp [*, errW_none, errW_some] <;> rfl), by repeat (first | (with_reducible first | exact HB.out | apply below_alloc | apply pw_below_drewN | apply below_drew1 | refine below_set ?_ GE201.out | refine below_set ?_ GE202.out) | exact HB.out)⟩

end Go.Proofs.YtmimninicegjcaaGreatDoor.QT
/- The marks behind a list of columns. -/
namespace Go.Proofs.YtmimninicegjcaaGreatDoor
open Go.RowKit Go.Shelf Go.Lib Go.Proofs.YtmimninicegjcaaGreatDoorW.PrintWords Go.Proofs.YtmimninicegjcaaGreatDoorW.PrintLast
set_option linter.unusedVariables false
def markC (j : Nat) : QT.S31 := match QT.daybookkeep_markColumns.f 700000 (j : Int) with
  | some t => ⟨t.1, t.2.1, t.2.2⟩
  | none => ⟨⟨#[]⟩, 0, 0⟩
theorem marks_there : ∀ j : Fin 64, (QT.daybookkeep_markColumns.f 700000 ((j : Nat) : Int)).isSome = true := by decide +kernel
theorem markC_some {j : Nat} (h : j < 64) : QT.daybookkeep_markColumns.f 700000 (j : Int) = some ((markC j).f0, (markC j).f1, (markC j).f2) := by
  have h2 := marks_there ⟨j, h⟩
  simp only at h2
  obtain ⟨t, ht⟩ := Option.isSome_iff_exists.1 h2
  unfold markC
  rw [ht]
def marksC (n : Nat) : List QT.S31 := (List.range n).map markC
theorem marksC_length (n : Nat) : (marksC n).length = n := by simp [marksC]
theorem marksC_succ (n : Nat) : marksC (n + 1) = marksC n ++ [markC n] := by simp [marksC, List.range_succ]
theorem same_refl (c : QT.S31) : QT.daybookkeep_sameColumns.f c.f0 c.f1 c.f2 c.f0 c.f1 c.f2 = some true := by
  simp [QT.daybookkeep_sameColumns.f]
end Go.Proofs.YtmimninicegjcaaGreatDoor
-- Written by a program of this session (wip/prune.py, out of wip/myprint.py's text). Not trusted: Lean checks it.
namespace Go.Proofs.YtmimninicegjcaaGreatDoor.QT
open Go.RowKit Go.Proofs.YtmimninicegjcaaGreatDoorW.PrintWords Go.Proofs.YtmimninicegjcaaGreatDoorW.PrintLast Go.Proofs.YtmimninicegjcaaGreatDoorW.PrintMore
attribute [local go_sem] max2_int min2_int max_two min_two max_three min_three max_four min_four   -- for this text's walks alone
set_option linter.unusedVariables false
set_option linter.unusedSimpArgs false

/-! ### daybookkeep_KeptColumns: function 13 -/
def daybookkeep_KeptColumns.l0 : Nat → List (S31) → List (S31) → Int → Option (Bool)
  | 0, _, _, _ => none
  | k + 1, x0, x1, x5 => if x5 < (x0.length : Int) then (if x5 < (x1.length : Int) then (if 0 ≤ x5 then ((daybookkeep_sameColumns.f ((rd_T31 x0 x5).f0) ((rd_T31 x0 x5).f1) ((rd_T31 x0 x5).f2) ((rd_T31 x1 x5).f0) ((rd_T31 x1 x5).f1) ((rd_T31 x1 x5).f2)).bind fun t205 => (if t205 = true then (if x5 ≥ (x1.length : Int) then ((daybookkeep_markColumns.f 700000 (wrap64 (x5 - (x1.length : Int)))).bind fun bt207 => ((daybookkeep_sameColumns.f ((rd_T31 x0 x5).f0) ((rd_T31 x0 x5).f1) ((rd_T31 x0 x5).f2) bt207.1 bt207.2.1 bt207.2.2).bind fun t210 => (if t210 = true then (daybookkeep_KeptColumns.l0 k x0 x1 (wrap64 (x5 + 1))) else (some false)))) else (daybookkeep_KeptColumns.l0 k x0 x1 (wrap64 (x5 + 1)))) else (some false))) else (none)) else (if x5 ≥ (x1.length : Int) then (if 0 ≤ x5 then ((daybookkeep_markColumns.f 700000 (wrap64 (x5 - (x1.length : Int)))).bind fun bt212 => ((daybookkeep_sameColumns.f ((rd_T31 x0 x5).f0) ((rd_T31 x0 x5).f1) ((rd_T31 x0 x5).f2) bt212.1 bt212.2.1 bt212.2.2).bind fun t215 => (if t215 = true then (daybookkeep_KeptColumns.l0 k x0 x1 (wrap64 (x5 + 1))) else (some false)))) else (none)) else (daybookkeep_KeptColumns.l0 k x0 x1 (wrap64 (x5 + 1))))) else (some true)
def daybookkeep_KeptColumns.f (k : Nat) (l0 : List (S31)) (l1 : List (S31)) : Option (Bool) := if (l0.length : Int) = (wrap64 ((l1.length : Int) + 64)) then (daybookkeep_KeptColumns.l0 k l0 l1 0) else (some false)
theorem daybookkeep_KeptColumns.mono_l : ∀ k, (∀ y0 y1 y2, LeO (daybookkeep_KeptColumns.l0 k y0 y1 y2) (daybookkeep_KeptColumns.l0 (k + 1) y0 y1 y2))
  | 0 => fun _ _ _ r h => by simp [daybookkeep_KeptColumns.l0] at h
  | k + 1 => by
    have ih0 := daybookkeep_KeptColumns.mono_l k
    · intro y0 y1 y2
      unfold daybookkeep_KeptColumns.l0
      repeat' first
      | (with_reducible exact ih0 _ _ _)
      | (with_reducible exact LeO.refl _)
      | (with_reducible exact LeO.none _)
      | (with_reducible refine LeO.ite ?_ ?_)
      | (with_reducible refine LeO.bind ?_ (fun _ => ?_))
      | exact ih0 _ _ _
      | exact LeO.none _
      | refine LeO.ite ?_ ?_
      | refine LeO.bind ?_ (fun _ => ?_)
theorem daybookkeep_KeptColumns.mono : ∀ a0 a1 k, LeO (daybookkeep_KeptColumns.f k a0 a1) (daybookkeep_KeptColumns.f (k + 1) a0 a1) := by
  intro a0 a1 k
  have ih0 := daybookkeep_KeptColumns.mono_l k
  unfold daybookkeep_KeptColumns.f
  repeat' first
      | (with_reducible exact ih0 _ _ _)
      | (with_reducible exact LeO.refl _)
      | (with_reducible exact LeO.none _)
      | (with_reducible refine LeO.ite ?_ ?_)
      | (with_reducible refine LeO.bind ?_ (fun _ => ?_))
      | exact ih0 _ _ _
      | exact LeO.none _
      | refine LeO.ite ?_ ?_
      | refine LeO.bind ?_ (fun _ => ?_)
def daybookkeep_KeptColumns.T6 : Bool × List (List Nat × List Nat) := (true, [([], []), ([], []), ([1], [1]), ([0, 2], [0, 2]), ([3], [3]), ([4], [4]), ([4], [4]), ([5, 6, 4], [4, 5, 6]), ([7, 4], [4, 7]), ([4], [4]), ([4], [4]), ([9, 10, 4], [4, 9, 10]), ([11, 4], [4, 11]), ([8, 12, 4, 4], [4, 8, 12]), ([13, 4], [4, 13]), ([4, 14], [4, 14]), ([15, 13], [15]), ([16], [16]), ([16], [16]), ([18, 16], [16, 18]), ([17, 19, 16], [16, 17, 19]), ([20, 16, 16], [16, 20]), ([21], [21]), ([21], [21]), ([22, 23, 21], [21, 22, 23]), ([24, 21], [21, 24]), ([21], [21]), ([21], [21]), ([27, 21], [21, 27]), ([26, 28, 21], [21, 26, 28]), ([29, 21, 21], [21, 29]), ([25, 30, 30, 21], [21, 25, 30]), ([31, 21], [21, 31]), ([21, 32, 16], [16, 21, 32]), ([16, 33], [16, 33])])
def daybookkeep_KeptColumns.B6 : List Nat := [0, 0, 2, 7, 15, 31, 31, 127, 255, 31, 31, 1567, 3615, 8191, 16383, 32767, 65535, 131071, 131071, 393215, 1048575, 2097151, 4194303, 4194303, 16777215, 33554431, 4194303, 4194303, 138412031, 473956351, 1010827263, 2147483647, 4294967295, 8589934591, 17179869183]
theorem daybookkeep_KeptColumns.tab6 : rtab .any (opsOf Tryz.f13 6) = daybookkeep_KeptColumns.T6 := by kernel_rfl
theorem daybookkeep_KeptColumns.bits6 : waitsOk daybookkeep_KeptColumns.T6.2 daybookkeep_KeptColumns.B6 = true := by kernel_rfl
set_option maxHeartbeats 8000000 in
set_option maxRecDepth 100000 in
theorem daybookkeep_KeptColumns.kept (k : Nat) (A0 : Option Addr) (c0 : Nat) (l0 : List (S31)) (A1 : Option Addr) (c1 : Nat) (l1 : List (S31)) (r : Bool) (w : World) (hr0 : Kd.C k31 w A0 l0.length l0) (hc0 : l0.length ≤ c0) (hr1 : Kd.C k31 w A1 l1.length l1) (hc1 : l1.length ≤ c1) (hL : Laid w) (hg : ∀ y : Int, 0 ≤ y → y < (l1.length : Int) → (daybookkeep_sameColumns.f ((rd_T31 l0 y).f0) ((rd_T31 l0 y).f1) ((rd_T31 l0 y).f2) ((rd_T31 l1 y).f0) ((rd_T31 l1 y).f1) ((rd_T31 l1 y).f2)) = some true) (hg2 : ∀ y : Int, (l1.length : Int) ≤ y → y < (l0.length : Int) → ∀ bt212, (daybookkeep_markColumns.f 700000 (wrap64 (y - (l1.length : Int)))) = some bt212 → (daybookkeep_sameColumns.f ((rd_T31 l0 y).f0) ((rd_T31 l0 y).f1) ((rd_T31 l0 y).f2) bt212.1 bt212.2.1 bt212.2.2) = some true) (h : daybookkeep_KeptColumns.f k l0 l1 = some r) :
    Calls Tryz.prog 13 #[.slice A0 l0.length c0, .slice A1 l1.length c1] w fun e w' => e = .returned (.bool r) ∧ Below w.heap.size w w' := by
  have HG := Aside0.mk hg
  have HG2 := Aside0.mk hg2
  clear hg hg2
  have hu31 := Tryz.underlying31
  have HR0 := Aside0.mk hr0
  have HC0 := Aside0.mk hc0
  clear hr0 hc0
  have HR1 := Aside0.mk hr1
  have HC1 := Aside0.mk hc1
  clear hr1 hc1
  have HB := Aside0.mk (Below.refl w.heap.size w)
  have HLd := Aside0.mk hL
  clear hL
  have H : (if (l0.length : Int) = (wrap64 ((l1.length : Int) + 64)) then (daybookkeep_KeptColumns.l0 k l0 l1 0) else (some false)) = some r := h
  clear h
  by_cases c3 : (l0.length : Int) = (wrap64 ((l1.length : Int) + 64))
  · rw [if_pos c3] at H
    have c3b0 : ((l0.length : Int) == (wrap64 ((l1.length : Int) + 64))) = true := beq_iff_eq.mpr c3
    have c3b1 : ((l0.length : Int) != (wrap64 ((l1.length : Int) + 64))) = false := bne_eq_false_iff_eq.mpr c3
    clear c3
    have H' := Aside0.mk H
    clear H
    go_enter Tryz.func13, Tryz.ntmps13
    go_wp2
    go_loopg [5] k (fun kq v5 w' => ∃ (x5_1 : Int), v5 = .int .i64 x5_1 ∧ Aside0 (daybookkeep_KeptColumns.l0 kq l0 l1 x5_1 = some r) ∧ Aside0 (kq ≤ k) ∧ Aside0 (Below w.heap.size w w'))
    case atStart => exact ⟨(0), (by first | rfl | (simp; done) | (simp [*]; done)), H', ⟨Nat.le_refl _⟩, ⟨by repeat (first | (with_reducible first | exact HB.out | apply below_alloc | apply pw_below_drewN | apply below_drew1) | exact HB.out)⟩⟩
    case round =>
      clear H'
      try clear c1
      try clear p2
      try clear c3
      try clear c3b0
      try clear c3b1
      obtain ⟨x5_1, rfl, HA, HK1, HB⟩ := hrel
      cases gk with
      | zero => exact absurd HA.out (by simp [daybookkeep_KeptColumns.l0])
      | succ k1 =>
        have H := HA.out
        clear HA
        simp only [daybookkeep_KeptColumns.l0] at H
        by_cases c4 : x5_1 < (l0.length : Int)
        · rw [if_pos c4] at H
          have c4b0 : decide (x5_1 < (l0.length : Int)) = true := decide_eq_true c4
          clear c4
          by_cases c5 : x5_1 < (l1.length : Int)
          · rw [if_pos c5] at H
            have c5b0 : decide (x5_1 < (l1.length : Int)) = true := decide_eq_true c5
            clear c5
            by_cases c6 : 0 ≤ x5_1
            · rw [if_pos c6] at H
              have c6b0 : decide (0 ≤ x5_1) = true := decide_eq_true c6
              clear c6
              replace H := Option.bind_eq_some_iff.mp H
              obtain ⟨t205, A70, H⟩ := H
              replace H : (if t205 = true then (if x5_1 ≥ (l1.length : Int) then ((daybookkeep_markColumns.f 700000 (wrap64 (x5_1 - (l1.length : Int)))).bind fun bt207 => ((daybookkeep_sameColumns.f ((rd_T31 l0 x5_1).f0) ((rd_T31 l0 x5_1).f1) ((rd_T31 l0 x5_1).f2) bt207.1 bt207.2.1 bt207.2.2).bind fun t210 => (if t210 = true then (daybookkeep_KeptColumns.l0 k1 l0 l1 (wrap64 (x5_1 + 1))) else (some false)))) else (daybookkeep_KeptColumns.l0 k1 l0 l1 (wrap64 (x5_1 + 1)))) else (some false)) = some r := H
              have A7 := Aside0.mk A70
              clear A70
              by_cases c8 : t205 = true
              · subst c8
                have H1 : (if x5_1 ≥ (l1.length : Int) then ((daybookkeep_markColumns.f 700000 (wrap64 (x5_1 - (l1.length : Int)))).bind fun bt207 => ((daybookkeep_sameColumns.f ((rd_T31 l0 x5_1).f0) ((rd_T31 l0 x5_1).f1) ((rd_T31 l0 x5_1).f2) bt207.1 bt207.2.1 bt207.2.2).bind fun t210 => (if t210 = true then (daybookkeep_KeptColumns.l0 k1 l0 l1 (wrap64 (x5_1 + 1))) else (some false)))) else (daybookkeep_KeptColumns.l0 k1 l0 l1 (wrap64 (x5_1 + 1)))) = some r := by rw [if_pos rfl] at H; exact H
                clear H
                have H := H1
                clear H1
                by_cases c9 : x5_1 ≥ (l1.length : Int)
                · exact absurd (of_decide_eq_true c5b0) (by omega)
                · rw [if_neg c9] at H
                  have c9b0 : decide ((l1.length : Int) ≤ x5_1) = false := decide_eq_false c9
                  clear c9
                  have H' := Aside0.mk H
                  clear H
                  try go_wp2
                  have n0_ := Aside0.mk (below_drew1 HB.out)
                  clear HB
                  have HB := n0_
                  clear n0_
                  have p203 : 0 ≤ (x5_1 : Int) := of_decide_eq_true (by first | (with_reducible assumption) | assumption)
                  have q203 : x5_1 < (l0.length : Int) := of_decide_eq_true (by first | (with_reducible assumption) | assumption)
                  obtain ⟨ad203, e203, hx203_0, hx203_1, hx203_2⟩ := at_T31 HR0.out x5_1 p203 q203
                  have hw203_2 := hx203_2
                  have hw203_1 := hx203_1
                  have hw203_0 := hx203_0
                  cases e203
                  replace hx203_0 := (HB.out.cell (World.block_lt_of_cell? w _ hx203_0)).trans hx203_0
                  replace hx203_1 := (HB.out.cell (World.block_lt_of_cell? w _ hx203_1)).trans hx203_1
                  replace hx203_2 := (HB.out.cell (World.block_lt_of_cell? w _ hx203_2)).trans hx203_2
                  replace p203 := eq_true p203
                  replace q203 := eq_true q203
                  have p204 : 0 ≤ (x5_1 : Int) := of_decide_eq_true (by first | (with_reducible assumption) | assumption)
                  have q204 : x5_1 < (l1.length : Int) := of_decide_eq_true (by first | (with_reducible assumption) | assumption)
                  obtain ⟨ad204, e204, hx204_0, hx204_1, hx204_2⟩ := at_T31 HR1.out x5_1 p204 q204
                  have hw204_2 := hx204_2
                  have hw204_1 := hx204_1
                  have hw204_0 := hx204_0
                  cases e204
                  replace hx204_0 := (HB.out.cell (World.block_lt_of_cell? w _ hx204_0)).trans hx204_0
                  replace hx204_1 := (HB.out.cell (World.block_lt_of_cell? w _ hx204_1)).trans hx204_1
                  replace hx204_2 := (HB.out.cell (World.block_lt_of_cell? w _ hx204_2)).trans hx204_2
                  replace p204 := eq_true p204
                  replace q204 := eq_true q204
                  refine start_ (n := 35) (S := fun w' => w'.cell? (ad203.add ((x5_1).toNat * 3)) = some (.string ((rd_T31 l0 x5_1).f0)) ∧ w'.cell? ⟨(ad203.add ((x5_1).toNat * 3)).block, (ad203.add ((x5_1).toNat * 3)).off + 1, none⟩ = some (.int .i64 ((rd_T31 l0 x5_1).f1)) ∧ w'.cell? ⟨(ad203.add ((x5_1).toNat * 3)).block, (ad203.add ((x5_1).toNat * 3)).off + 2, none⟩ = some (.int .i64 ((rd_T31 l0 x5_1).f2)) ∧ w'.cell? (ad204.add ((x5_1).toNat * 3)) = some (.string ((rd_T31 l1 x5_1).f0)) ∧ w'.cell? ⟨(ad204.add ((x5_1).toNat * 3)).block, (ad204.add ((x5_1).toNat * 3)).off + 1, none⟩ = some (.int .i64 ((rd_T31 l1 x5_1).f1)) ∧ w'.cell? ⟨(ad204.add ((x5_1).toNat * 3)).block, (ad204.add ((x5_1).toNat * 3)).off + 2, none⟩ = some (.int .i64 ((rd_T31 l1 x5_1).f2))) (ds := []) #[false, false, false, false, false, false, false, false, false, false, false, false, false, false, false, false, false, false, false, false, false, false, false, false, false, false, false, false, false, false, false, false, false, false, false] (by kernel_rfl) rfl rfl ⟨((HB.out.cell (World.block_lt_of_cell? w _ hw203_0)).trans hw203_0), ((HB.out.cell (World.block_lt_of_cell? w _ hw203_1)).trans hw203_1), ((HB.out.cell (World.block_lt_of_cell? w _ hw203_2)).trans hw203_2), ((HB.out.cell (World.block_lt_of_cell? w _ hw204_0)).trans hw204_0), ((HB.out.cell (World.block_lt_of_cell? w _ hw204_1)).trans hw204_1), ((HB.out.cell (World.block_lt_of_cell? w _ hw204_2)).trans hw204_2)⟩ (fun hHeld => ?_); refine with_tabW daybookkeep_KeptColumns.tab6 daybookkeep_KeptColumns.bits6 (fun HT_ HW_ => ?_)
                  generalize wr.drew = w21 at HB hx203_0 hx203_1 hx203_2 hx204_0 hx204_1 hx204_2 hHeld ⊢
                  refine pure_ (i := 0) (N := some 18) (v := ?_) (a' := ?_) #[true, false, false, false, false, false, false, false, false, false, false, false, false, false, false, false, false, false, false, false, false, false, false, false, false, false, false, false, false, false, false, false, false, false, false] rfl rfl (any_of HT_.out (by kernel_rfl)) (fun _ _ _ h => h) (Or.inl ⟨by rfl, ?_⟩) ?_ ?_
                  rotate_left
                  · intro w'
                    go_simp
                    with_reducible rfl
                  rotate_left
                  · simp only [Act.put, List.setIfInBounds_toArray, List.set_cons_zero, List.set_cons_succ, i64_w, i32_w]
                    rfl
                  refine pure_ (i := 1) (N := some 19) (v := ?_) (a' := ?_) #[true, true, false, false, false, false, false, false, false, false, false, false, false, false, false, false, false, false, false, false, false, false, false, false, false, false, false, false, false, false, false, false, false, false, false] rfl rfl (any_of HT_.out (by kernel_rfl)) (fun _ _ _ h => h) (Or.inl ⟨by rfl, ?_⟩) ?_ ?_
                  rotate_left
                  · intro w'
                    go_simp
                    with_reducible rfl
                  rotate_left
                  · simp only [Act.put, List.setIfInBounds_toArray, List.set_cons_zero, List.set_cons_succ, i64_w, i32_w]
                    rfl
                  refine pure_ (i := 2) (N := some 20) (v := ?_) (a' := ?_) #[true, true, true, false, false, false, false, false, false, false, false, false, false, false, false, false, false, false, false, false, false, false, false, false, false, false, false, false, false, false, false, false, false, false, false] rfl rfl (any_of HT_.out (by kernel_rfl)) (fun _ _ _ h => h) (Or.inl ⟨by rfl, ?_⟩) ?_ ?_
                  rotate_left
                  · intro w'
                    go_simp
                    with_reducible rfl
                  rotate_left
                  · simp only [Act.put, List.setIfInBounds_toArray, List.set_cons_zero, List.set_cons_succ, i64_w, i32_w]
                    rfl
                  refine pure_ (i := 3) (N := some 21) (v := ?_) (a' := ?_) #[true, true, true, true, false, false, false, false, false, false, false, false, false, false, false, false, false, false, false, false, false, false, false, false, false, false, false, false, false, false, false, false, false, false, false] rfl rfl (any_of HT_.out (by kernel_rfl)) (fun _ _ _ h => h) (Or.inl ⟨by rfl, ?_⟩) ?_ ?_
                  rotate_left
                  · intro w'
                    go_simp
                    with_reducible rfl
                  rotate_left
                  · simp only [Act.put, List.setIfInBounds_toArray, List.set_cons_zero, List.set_cons_succ, i64_w, i32_w]
                    rfl
                  refine pure_ (i := 4) (N := some 22) (v := ?_) (a' := ?_) #[true, true, true, true, true, false, false, false, false, false, false, false, false, false, false, false, false, false, false, false, false, false, false, false, false, false, false, false, false, false, false, false, false, false, false] rfl rfl (any_of HT_.out (by kernel_rfl)) (fun _ _ _ h => h) (Or.inl ⟨by rfl, ?_⟩) ?_ ?_
                  rotate_left
                  · intro w'
                    go_simp
                    with_reducible rfl
                  rotate_left
                  · simp only [Act.put, List.setIfInBounds_toArray, List.set_cons_zero, List.set_cons_succ, i64_w, i32_w]
                    rfl
                  refine pure_ (i := 5) (N := some 23) (v := ?_) (a' := ?_) #[true, true, true, true, true, true, false, false, false, false, false, false, false, false, false, false, false, false, false, false, false, false, false, false, false, false, false, false, false, false, false, false, false, false, false] rfl rfl (any_of HT_.out (by kernel_rfl)) (fun _ _ _ h => h) (Or.inl ⟨by rfl, ?_⟩) ?_ ?_
                  rotate_left
                  · intro w'
                    go_simp
                    with_reducible rfl
                  rotate_left
                  · simp only [Act.put, List.setIfInBounds_toArray, List.set_cons_zero, List.set_cons_succ, i64_w, i32_w]
                    rfl
                  refine pure_ (i := 6) (N := some 24) (v := ?_) (a' := ?_) #[true, true, true, true, true, true, true, false, false, false, false, false, false, false, false, false, false, false, false, false, false, false, false, false, false, false, false, false, false, false, false, false, false, false, false] rfl rfl (any_of HT_.out (by kernel_rfl)) (fun _ _ _ h => h) (Or.inl ⟨by rfl, ?_⟩) ?_ ?_
                  rotate_left
                  · intro w'
                    go_simp
                    with_reducible rfl
                  rotate_left
                  · simp only [Act.put, List.setIfInBounds_toArray, List.set_cons_zero, List.set_cons_succ, i64_w, i32_w]
                    rfl
                  refine pure_ (i := 7) (N := some 25) (v := ?_) (a' := ?_) #[true, true, true, true, true, true, true, true, false, false, false, false, false, false, false, false, false, false, false, false, false, false, false, false, false, false, false, false, false, false, false, false, false, false, false] rfl rfl (any_of HT_.out (by kernel_rfl)) (fun _ _ _ h => h) (Or.inl ⟨by rfl, ?_⟩) ?_ ?_
                  rotate_left
                  · intro w'
                    go_simp
                    with_reducible rfl
                  rotate_left
                  · simp only [Act.put, List.setIfInBounds_toArray, List.set_cons_zero, List.set_cons_succ, i64_w, i32_w]
                    rfl
                  refine pure_ (i := 9) (N := some 27) (v := ?_) (a' := ?_) #[true, true, true, true, true, true, true, true, false, true, false, false, false, false, false, false, false, false, false, false, false, false, false, false, false, false, false, false, false, false, false, false, false, false, false] rfl rfl (any_of HT_.out (by kernel_rfl)) (fun _ _ _ h => h) (Or.inl ⟨by rfl, ?_⟩) ?_ ?_
                  rotate_left
                  · intro w'
                    go_simp
                    with_reducible rfl
                  rotate_left
                  · simp only [Act.put, List.setIfInBounds_toArray, List.set_cons_zero, List.set_cons_succ, i64_w, i32_w]
                    rfl
                  refine pure_ (i := 10) (N := some 28) (v := ?_) (a' := ?_) #[true, true, true, true, true, true, true, true, false, true, true, false, false, false, false, false, false, false, false, false, false, false, false, false, false, false, false, false, false, false, false, false, false, false, false] rfl rfl (any_of HT_.out (by kernel_rfl)) (fun _ _ _ h => h) (Or.inl ⟨by rfl, ?_⟩) ?_ ?_
                  rotate_left
                  · intro w'
                    go_simp
                    with_reducible rfl
                  rotate_left
                  · simp only [Act.put, List.setIfInBounds_toArray, List.set_cons_zero, List.set_cons_succ, i64_w, i32_w]
                    rfl
                  refine pure_ (i := 11) (N := some 29) (v := ?_) (a' := ?_) #[true, true, true, true, true, true, true, true, false, true, true, true, false, false, false, false, false, false, false, false, false, false, false, false, false, false, false, false, false, false, false, false, false, false, false] rfl rfl (any_of HT_.out (by kernel_rfl)) (fun _ _ _ h => h) (Or.inl ⟨by rfl, ?_⟩) ?_ ?_
                  rotate_left
                  · intro w'
                    go_simp
                    with_reducible rfl
                  rotate_left
                  · simp only [Act.put, List.setIfInBounds_toArray, List.set_cons_zero, List.set_cons_succ, i64_w, i32_w]
                    rfl
                  refine take_ (i := 8) (N := some 26) (v := ?_) (a' := ?_) #[true, true, true, true, true, true, true, true, true, true, true, true, false, false, false, false, false, false, false, false, false, false, false, false, false, false, false, false, false, false, false, false, false, false, false] rfl rfl (take_ofW HT_.out HW_.out (by kernel_rfl)) (fun _ _ _ h => h) (Or.inl ⟨by rfl, ?_⟩) hHeld ?_ ?_
                  rotate_left
                  · rintro w' ⟨s0, s1, s2, s3, s4, s5⟩
                    go_simp
                    with_reducible rfl
                  rotate_left
                  · simp only [Act.put, List.setIfInBounds_toArray, List.set_cons_zero, List.set_cons_succ, i64_w, i32_w]
                    rfl
                  refine take_ (i := 12) (N := some 30) (v := ?_) (a' := ?_) #[true, true, true, true, true, true, true, true, true, true, true, true, true, false, false, false, false, false, false, false, false, false, false, false, false, false, false, false, false, false, false, false, false, false, false] rfl rfl (take_ofW HT_.out HW_.out (by kernel_rfl)) (fun _ _ _ h => h) (Or.inl ⟨by rfl, ?_⟩) hHeld ?_ ?_
                  rotate_left
                  · rintro w' ⟨s0, s1, s2, s3, s4, s5⟩
                    go_simp
                    with_reducible rfl
                  rotate_left
                  · simp only [Act.put, List.setIfInBounds_toArray, List.set_cons_zero, List.set_cons_succ, i64_w, i32_w]
                    rfl
                  refine one_ (i := 13) (N := some 31) #[true, true, true, true, true, true, true, true, true, true, true, true, true, true, false, false, false, false, false, false, false, false, false, false, false, false, false, false, false, false, false, false, false, false, false] rfl rfl (one_of HT_.out (by kernel_rfl)) (by decide) (fun K hK => ?_)
                  refine goes_ Tryz.func53 (by kernel_rfl) rfl #[.agg #[.string ((rd_T31 l0 x5_1).f0), .int .i64 ((rd_T31 l0 x5_1).f1), .int .i64 ((rd_T31 l0 x5_1).f2)], .agg #[.string ((rd_T31 l1 x5_1).f0), .int .i64 ((rd_T31 l1 x5_1).f1), .int .i64 ((rd_T31 l1 x5_1).f2)]] (by rfl) rfl rfl (by (try simp only [List.map_toArray, List.map_cons, List.map_nil]); first | done | rfl | (simp only [List.length_drop, List.length_take]; rfl)) ?_
                  with_reducible refine (daybookkeep_sameColumns.calls ((rd_T31 l0 x5_1).f0) ((rd_T31 l0 x5_1).f1) ((rd_T31 l0 x5_1).f2) ((rd_T31 l1 x5_1).f0) ((rd_T31 l1 x5_1).f1) ((rd_T31 l1 x5_1).f2) true _ A7.out).mono ?_
                  rintro e w22 ⟨rfl, hb⟩
                  refine ⟨_, rfl, ?_⟩
                  have n0_ := Aside0.mk (below_step (by repeat (first | (with_reducible first | exact HB.out | apply below_alloc | apply pw_below_drewN | apply below_drew1) | exact HB.out)) hb)
                  clear HB
                  have HB := n0_
                  clear n0_
                  (try clear hb)
                  (try clear hb2)
                  (try clear hk)
                  (try clear hi)
                  refine hK.out _ _ ⟨((HB.out.cell (World.block_lt_of_cell? w _ hw203_0)).trans hw203_0), ((HB.out.cell (World.block_lt_of_cell? w _ hw203_1)).trans hw203_1), ((HB.out.cell (World.block_lt_of_cell? w _ hw203_2)).trans hw203_2), ((HB.out.cell (World.block_lt_of_cell? w _ hw204_0)).trans hw204_0), ((HB.out.cell (World.block_lt_of_cell? w _ hw204_1)).trans hw204_1), ((HB.out.cell (World.block_lt_of_cell? w _ hw204_2)).trans hw204_2)⟩ (fun hHeld => ?_)
                  clear hK K
                  refine norm_ (a' := ?_) ?_ ?_
                  rotate_left
                  · show Act.put _ (some 31) _ = _
                    simp only [Act.put, List.setIfInBounds_toArray, List.set_cons_zero, List.set_cons_succ, i64_w, i32_w]
                    rfl
                  refine pure_ (i := 14) (N := some 32) (v := ?_) (a' := ?_) #[true, true, true, true, true, true, true, true, true, true, true, true, true, true, true, false, false, false, false, false, false, false, false, false, false, false, false, false, false, false, false, false, false, false, false] rfl rfl (any_of HT_.out (by kernel_rfl)) (fun _ _ _ h => h) (Or.inl ⟨by rfl, ?_⟩) ?_ ?_
                  rotate_left
                  · intro w'
                    go_simp
                    with_reducible rfl
                  rotate_left
                  · simp only [Act.put, List.setIfInBounds_toArray, List.set_cons_zero, List.set_cons_succ, i64_w, i32_w]
                    rfl
                  refine pure_ (i := 15) (N := some 33) (v := ?_) (a' := ?_) #[true, true, true, true, true, true, true, true, true, true, true, true, true, true, true, true, false, false, false, false, false, false, false, false, false, false, false, false, false, false, false, false, false, false, false] rfl rfl (any_of HT_.out (by kernel_rfl)) (fun _ _ _ h => h) (Or.inl ⟨by rfl, ?_⟩) ?_ ?_
                  rotate_left
                  · intro w'
                    go_simp
                    with_reducible rfl
                  rotate_left
                  · simp only [Act.put, List.setIfInBounds_toArray, List.set_cons_zero, List.set_cons_succ, i64_w, i32_w]
                    rfl
                  refine pure_ (i := 16) (N := some 34) (v := ?_) (a' := ?_) #[true, true, true, true, true, true, true, true, true, true, true, true, true, true, true, true, true, false, false, false, false, false, false, false, false, false, false, false, false, false, false, false, false, false, false] rfl rfl (any_of HT_.out (by kernel_rfl)) (fun _ _ _ h => h) (Or.inl ⟨by rfl, ?_⟩) ?_ ?_
                  rotate_left
                  · intro w'
                    go_simp
                    with_reducible rfl
                  rotate_left
                  · simp only [Act.put, List.setIfInBounds_toArray, List.set_cons_zero, List.set_cons_succ, i64_w, i32_w]
                    rfl
                  refine pure_ (i := 17) (N := some 35) (v := ?_) (a' := ?_) #[true, true, true, true, true, true, true, true, true, true, true, true, true, true, true, true, true, true, false, false, false, false, false, false, false, false, false, false, false, false, false, false, false, false, false] rfl rfl (any_of HT_.out (by kernel_rfl)) (fun _ _ _ h => h) (Or.inl ⟨by rfl, ?_⟩) ?_ ?_
                  rotate_left
                  · intro w'
                    go_simp
                    with_reducible rfl
                  rotate_left
                  · simp only [Act.put, List.setIfInBounds_toArray, List.set_cons_zero, List.set_cons_succ, i64_w, i32_w]
                    rfl
                  refine pure_ (i := 18) (N := some 36) (v := ?_) (a' := ?_) #[true, true, true, true, true, true, true, true, true, true, true, true, true, true, true, true, true, true, true, false, false, false, false, false, false, false, false, false, false, false, false, false, false, false, false] rfl rfl (any_of HT_.out (by kernel_rfl)) (fun _ _ _ h => h) (Or.inl ⟨by rfl, ?_⟩) ?_ ?_
                  rotate_left
                  · intro w'
                    go_simp
                    with_reducible rfl
                  rotate_left
                  · simp only [Act.put, List.setIfInBounds_toArray, List.set_cons_zero, List.set_cons_succ, i64_w, i32_w]
                    rfl
                  refine pure_ (i := 19) (N := some 37) (v := ?_) (a' := ?_) #[true, true, true, true, true, true, true, true, true, true, true, true, true, true, true, true, true, true, true, true, false, false, false, false, false, false, false, false, false, false, false, false, false, false, false] rfl rfl (any_of HT_.out (by kernel_rfl)) (fun _ _ _ h => h) (Or.inl ⟨by rfl, ?_⟩) ?_ ?_
                  rotate_left
                  · intro w'
                    go_simp
                    with_reducible rfl
                  rotate_left
                  · simp only [Act.put, List.setIfInBounds_toArray, List.set_cons_zero, List.set_cons_succ, i64_w, i32_w]
                    rfl
                  refine pure_ (i := 20) (N := some 38) (v := ?_) (a' := ?_) #[true, true, true, true, true, true, true, true, true, true, true, true, true, true, true, true, true, true, true, true, true, false, false, false, false, false, false, false, false, false, false, false, false, false, false] rfl rfl (any_of HT_.out (by kernel_rfl)) (fun _ _ _ h => h) (Or.inl ⟨by rfl, ?_⟩) ?_ ?_
                  rotate_left
                  · intro w'
                    go_simp
                    with_reducible rfl
                  rotate_left
                  · simp only [Act.put, List.setIfInBounds_toArray, List.set_cons_zero, List.set_cons_succ, i64_w, i32_w]
                    rfl
                  refine pure_ (i := 21) (N := some 39) (v := ?_) (a' := ?_) #[true, true, true, true, true, true, true, true, true, true, true, true, true, true, true, true, true, true, true, true, true, true, false, false, false, false, false, false, false, false, false, false, false, false, false] rfl rfl (any_of HT_.out (by kernel_rfl)) (fun _ _ _ h => h) (Or.inl ⟨by rfl, ?_⟩) ?_ ?_
                  rotate_left
                  · intro w'
                    go_simp
                    with_reducible rfl
                  rotate_left
                  · simp only [Act.put, List.setIfInBounds_toArray, List.set_cons_zero, List.set_cons_succ, i64_w, i32_w]
                    rfl
                  refine pure_ (i := 22) (N := some 40) (v := undef) (a' := ?_) #[true, true, true, true, true, true, true, true, true, true, true, true, true, true, true, true, true, true, true, true, true, true, true, false, false, false, false, false, false, false, false, false, false, false, false] rfl rfl (any_of HT_.out (by kernel_rfl)) (fun _ _ _ h => h) (Or.inr ⟨by rfl, rfl⟩) ?_ ?_
                  rotate_left
                  · simp only [Act.put, List.setIfInBounds_toArray, List.set_cons_zero, List.set_cons_succ, i64_w, i32_w]
                    rfl
                  refine pure_ (i := 23) (N := some 41) (v := undef) (a' := ?_) #[true, true, true, true, true, true, true, true, true, true, true, true, true, true, true, true, true, true, true, true, true, true, true, true, false, false, false, false, false, false, false, false, false, false, false] rfl rfl (any_of HT_.out (by kernel_rfl)) (fun _ _ _ h => h) (Or.inr ⟨by rfl, rfl⟩) ?_ ?_
                  rotate_left
                  · simp only [Act.put, List.setIfInBounds_toArray, List.set_cons_zero, List.set_cons_succ, i64_w, i32_w]
                    rfl
                  refine pure_ (i := 24) (N := some 42) (v := undef) (a' := ?_) #[true, true, true, true, true, true, true, true, true, true, true, true, true, true, true, true, true, true, true, true, true, true, true, true, true, false, false, false, false, false, false, false, false, false, false] rfl rfl (any_of HT_.out (by kernel_rfl)) (fun _ _ _ h => h) (Or.inr ⟨by rfl, rfl⟩) ?_ ?_
                  rotate_left
                  · simp only [Act.put, List.setIfInBounds_toArray, List.set_cons_zero, List.set_cons_succ, i64_w, i32_w]
                    rfl
                  refine pure_ (i := 25) (N := some 43) (v := undef) (a' := ?_) #[true, true, true, true, true, true, true, true, true, true, true, true, true, true, true, true, true, true, true, true, true, true, true, true, true, true, false, false, false, false, false, false, false, false, false] rfl rfl (any_of HT_.out (by kernel_rfl)) (fun _ _ _ h => h) (Or.inr ⟨by rfl, rfl⟩) ?_ ?_
                  rotate_left
                  · simp only [Act.put, List.setIfInBounds_toArray, List.set_cons_zero, List.set_cons_succ, i64_w, i32_w]
                    rfl
                  refine pure_ (i := 26) (N := some 44) (v := undef) (a' := ?_) #[true, true, true, true, true, true, true, true, true, true, true, true, true, true, true, true, true, true, true, true, true, true, true, true, true, true, true, false, false, false, false, false, false, false, false] rfl rfl (any_of HT_.out (by kernel_rfl)) (fun _ _ _ h => h) (Or.inr ⟨by rfl, rfl⟩) ?_ ?_
                  rotate_left
                  · simp only [Act.put, List.setIfInBounds_toArray, List.set_cons_zero, List.set_cons_succ, i64_w, i32_w]
                    rfl
                  refine pure_ (i := 27) (N := some 45) (v := undef) (a' := ?_) #[true, true, true, true, true, true, true, true, true, true, true, true, true, true, true, true, true, true, true, true, true, true, true, true, true, true, true, true, false, false, false, false, false, false, false] rfl rfl (any_of HT_.out (by kernel_rfl)) (fun _ _ _ h => h) (Or.inr ⟨by rfl, rfl⟩) ?_ ?_
                  rotate_left
                  · simp only [Act.put, List.setIfInBounds_toArray, List.set_cons_zero, List.set_cons_succ, i64_w, i32_w]
                    rfl
                  refine pure_ (i := 28) (N := some 46) (v := undef) (a' := ?_) #[true, true, true, true, true, true, true, true, true, true, true, true, true, true, true, true, true, true, true, true, true, true, true, true, true, true, true, true, true, false, false, false, false, false, false] rfl rfl (any_of HT_.out (by kernel_rfl)) (fun _ _ _ h => h) (Or.inr ⟨by rfl, rfl⟩) ?_ ?_
                  rotate_left
                  · simp only [Act.put, List.setIfInBounds_toArray, List.set_cons_zero, List.set_cons_succ, i64_w, i32_w]
                    rfl
                  refine pure_ (i := 29) (N := some 47) (v := undef) (a' := ?_) #[true, true, true, true, true, true, true, true, true, true, true, true, true, true, true, true, true, true, true, true, true, true, true, true, true, true, true, true, true, true, false, false, false, false, false] rfl rfl (any_of HT_.out (by kernel_rfl)) (fun _ _ _ h => h) (Or.inr ⟨by rfl, rfl⟩) ?_ ?_
                  rotate_left
                  · simp only [Act.put, List.setIfInBounds_toArray, List.set_cons_zero, List.set_cons_succ, i64_w, i32_w]
                    rfl
                  refine pure_ (i := 30) (N := some 48) (v := undef) (a' := ?_) #[true, true, true, true, true, true, true, true, true, true, true, true, true, true, true, true, true, true, true, true, true, true, true, true, true, true, true, true, true, true, true, false, false, false, false] rfl rfl (any_of HT_.out (by kernel_rfl)) (fun _ _ _ h => h) (Or.inr ⟨by rfl, rfl⟩) ?_ ?_
                  rotate_left
                  · simp only [Act.put, List.setIfInBounds_toArray, List.set_cons_zero, List.set_cons_succ, i64_w, i32_w]
                    rfl
                  refine pure_ (i := 31) (N := some 49) (v := undef) (a' := ?_) #[true, true, true, true, true, true, true, true, true, true, true, true, true, true, true, true, true, true, true, true, true, true, true, true, true, true, true, true, true, true, true, true, false, false, false] rfl rfl (any_of HT_.out (by kernel_rfl)) (fun _ _ _ h => h) (Or.inr ⟨by rfl, rfl⟩) ?_ ?_
                  rotate_left
                  · simp only [Act.put, List.setIfInBounds_toArray, List.set_cons_zero, List.set_cons_succ, i64_w, i32_w]
                    rfl
                  refine pure_ (i := 32) (N := some 50) (v := undef) (a' := ?_) #[true, true, true, true, true, true, true, true, true, true, true, true, true, true, true, true, true, true, true, true, true, true, true, true, true, true, true, true, true, true, true, true, true, false, false] rfl rfl (any_of HT_.out (by kernel_rfl)) (fun _ _ _ h => h) (Or.inr ⟨by rfl, rfl⟩) ?_ ?_
                  rotate_left
                  · simp only [Act.put, List.setIfInBounds_toArray, List.set_cons_zero, List.set_cons_succ, i64_w, i32_w]
                    rfl
                  refine pure_ (i := 33) (N := some 51) (v := ?_) (a' := ?_) #[true, true, true, true, true, true, true, true, true, true, true, true, true, true, true, true, true, true, true, true, true, true, true, true, true, true, true, true, true, true, true, true, true, true, false] rfl rfl (any_of HT_.out (by kernel_rfl)) (fun _ _ _ h => h) (Or.inl ⟨by rfl, ?_⟩) ?_ ?_
                  rotate_left
                  · intro w'
                    go_simp
                    with_reducible rfl
                  rotate_left
                  · simp only [Act.put, List.setIfInBounds_toArray, List.set_cons_zero, List.set_cons_succ, i64_w, i32_w]
                    rfl
                  refine pure_ (i := 34) (N := some 52) (v := ?_) (a' := ?_) #[true, true, true, true, true, true, true, true, true, true, true, true, true, true, true, true, true, true, true, true, true, true, true, true, true, true, true, true, true, true, true, true, true, true, true] rfl rfl (any_of HT_.out (by kernel_rfl)) (fun _ _ _ h => h) (Or.inl ⟨by rfl, ?_⟩) ?_ ?_
                  rotate_left
                  · intro w'
                    go_simp
                    with_reducible rfl
                  rotate_left
                  · simp only [Act.put, List.setIfInBounds_toArray, List.set_cons_zero, List.set_cons_succ, i64_w, i32_w]
                    rfl
                  refine done_ (done_of HT_.out (by kernel_rfl)) ?_
                  try go_wp2
                  go_roundg k1
                  case measure => have := HK1.out; omega
                  case rel => exact ⟨(wrap64 (x5_1 + 1)), (by first | rfl | (simp; done) | (simp [*]; done)), H', ⟨by have := HK1.out; omega⟩, ⟨by repeat (first | (with_reducible first | exact HB.out | apply below_alloc | apply pw_below_drewN | apply below_drew1) | exact HB.out)⟩⟩
              · exact absurd (Option.some.inj (A7.out.symm.trans (HG.out x5_1 (of_decide_eq_true c6b0) (of_decide_eq_true c5b0)))) c8
            · rw [if_neg c6] at H
              exact absurd H (by simp)
          · rw [if_neg c5] at H
            have c5b0 : decide (x5_1 < (l1.length : Int)) = false := decide_eq_false c5
            clear c5
            by_cases c25 : x5_1 ≥ (l1.length : Int)
            · rw [if_pos c25] at H
              have c25b0 : decide ((l1.length : Int) ≤ x5_1) = true := decide_eq_true c25
              clear c25
              by_cases c26 : 0 ≤ x5_1
              · rw [if_pos c26] at H
                have c26b0 : decide (0 ≤ x5_1) = true := decide_eq_true c26
                clear c26
                replace H := Option.bind_eq_some_iff.mp H
                obtain ⟨⟨t212, t213, t214⟩, A270, H⟩ := H
                replace H : ((daybookkeep_sameColumns.f ((rd_T31 l0 x5_1).f0) ((rd_T31 l0 x5_1).f1) ((rd_T31 l0 x5_1).f2) t212 t213 t214).bind fun t215 => (if t215 = true then (daybookkeep_KeptColumns.l0 k1 l0 l1 (wrap64 (x5_1 + 1))) else (some false))) = some r := H
                have A27 := Aside0.mk A270
                clear A270
                replace H := Option.bind_eq_some_iff.mp H
                obtain ⟨t215, A280, H⟩ := H
                replace H : (if t215 = true then (daybookkeep_KeptColumns.l0 k1 l0 l1 (wrap64 (x5_1 + 1))) else (some false)) = some r := H
                have A28 := Aside0.mk A280
                clear A280
                by_cases c29 : t215 = true
                · subst c29
                  have H1 : (daybookkeep_KeptColumns.l0 k1 l0 l1 (wrap64 (x5_1 + 1))) = some r := by rw [if_pos rfl] at H; exact H
                  clear H
                  have H := H1
                  clear H1
                  have H' := Aside0.mk H
                  clear H
                  try go_wp2
                  have n0_ := Aside0.mk (below_drew1 HB.out)
                  clear HB
                  have HB := n0_
                  clear n0_
                  have p211 : 0 ≤ (x5_1 : Int) := of_decide_eq_true (by first | (with_reducible assumption) | assumption)
                  have q211 : x5_1 < (l0.length : Int) := of_decide_eq_true (by first | (with_reducible assumption) | assumption)
                  obtain ⟨ad211, e211, hx211_0, hx211_1, hx211_2⟩ := at_T31 HR0.out x5_1 p211 q211
                  have hw211_2 := hx211_2
                  have hw211_1 := hx211_1
                  have hw211_0 := hx211_0
                  cases e211
                  replace hx211_0 := (HB.out.cell (World.block_lt_of_cell? w _ hx211_0)).trans hx211_0
                  replace hx211_1 := (HB.out.cell (World.block_lt_of_cell? w _ hx211_1)).trans hx211_1
                  replace hx211_2 := (HB.out.cell (World.block_lt_of_cell? w _ hx211_2)).trans hx211_2
                  replace p211 := eq_true p211
                  replace q211 := eq_true q211
                  refine start_ (n := 35) (S := fun w' => w'.cell? (ad211.add ((x5_1).toNat * 3)) = some (.string ((rd_T31 l0 x5_1).f0)) ∧ w'.cell? ⟨(ad211.add ((x5_1).toNat * 3)).block, (ad211.add ((x5_1).toNat * 3)).off + 1, none⟩ = some (.int .i64 ((rd_T31 l0 x5_1).f1)) ∧ w'.cell? ⟨(ad211.add ((x5_1).toNat * 3)).block, (ad211.add ((x5_1).toNat * 3)).off + 2, none⟩ = some (.int .i64 ((rd_T31 l0 x5_1).f2))) (ds := []) #[false, false, false, false, false, false, false, false, false, false, false, false, false, false, false, false, false, false, false, false, false, false, false, false, false, false, false, false, false, false, false, false, false, false, false] (by kernel_rfl) rfl rfl ⟨((HB.out.cell (World.block_lt_of_cell? w _ hw211_0)).trans hw211_0), ((HB.out.cell (World.block_lt_of_cell? w _ hw211_1)).trans hw211_1), ((HB.out.cell (World.block_lt_of_cell? w _ hw211_2)).trans hw211_2)⟩ (fun hHeld => ?_); refine with_tabW daybookkeep_KeptColumns.tab6 daybookkeep_KeptColumns.bits6 (fun HT_ HW_ => ?_)
                  generalize wr.drew = w30 at HB hx211_0 hx211_1 hx211_2 hHeld ⊢
                  refine pure_ (i := 0) (N := some 18) (v := ?_) (a' := ?_) #[true, false, false, false, false, false, false, false, false, false, false, false, false, false, false, false, false, false, false, false, false, false, false, false, false, false, false, false, false, false, false, false, false, false, false] rfl rfl (any_of HT_.out (by kernel_rfl)) (fun _ _ _ h => h) (Or.inl ⟨by rfl, ?_⟩) ?_ ?_
                  rotate_left
                  · intro w'
                    go_simp
                    with_reducible rfl
                  rotate_left
                  · simp only [Act.put, List.setIfInBounds_toArray, List.set_cons_zero, List.set_cons_succ, i64_w, i32_w]
                    rfl
                  refine pure_ (i := 1) (N := some 19) (v := ?_) (a' := ?_) #[true, true, false, false, false, false, false, false, false, false, false, false, false, false, false, false, false, false, false, false, false, false, false, false, false, false, false, false, false, false, false, false, false, false, false] rfl rfl (any_of HT_.out (by kernel_rfl)) (fun _ _ _ h => h) (Or.inl ⟨by rfl, ?_⟩) ?_ ?_
                  rotate_left
                  · intro w'
                    go_simp
                    with_reducible rfl
                  rotate_left
                  · simp only [Act.put, List.setIfInBounds_toArray, List.set_cons_zero, List.set_cons_succ, i64_w, i32_w]
                    rfl
                  refine pure_ (i := 2) (N := some 20) (v := ?_) (a' := ?_) #[true, true, true, false, false, false, false, false, false, false, false, false, false, false, false, false, false, false, false, false, false, false, false, false, false, false, false, false, false, false, false, false, false, false, false] rfl rfl (any_of HT_.out (by kernel_rfl)) (fun _ _ _ h => h) (Or.inl ⟨by rfl, ?_⟩) ?_ ?_
                  rotate_left
                  · intro w'
                    go_simp
                    with_reducible rfl
                  rotate_left
                  · simp only [Act.put, List.setIfInBounds_toArray, List.set_cons_zero, List.set_cons_succ, i64_w, i32_w]
                    rfl
                  refine pure_ (i := 3) (N := some 21) (v := ?_) (a' := ?_) #[true, true, true, true, false, false, false, false, false, false, false, false, false, false, false, false, false, false, false, false, false, false, false, false, false, false, false, false, false, false, false, false, false, false, false] rfl rfl (any_of HT_.out (by kernel_rfl)) (fun _ _ _ h => h) (Or.inl ⟨by rfl, ?_⟩) ?_ ?_
                  rotate_left
                  · intro w'
                    go_simp
                    with_reducible rfl
                  rotate_left
                  · simp only [Act.put, List.setIfInBounds_toArray, List.set_cons_zero, List.set_cons_succ, i64_w, i32_w]
                    rfl
                  refine pure_ (i := 4) (N := some 22) (v := ?_) (a' := ?_) #[true, true, true, true, true, false, false, false, false, false, false, false, false, false, false, false, false, false, false, false, false, false, false, false, false, false, false, false, false, false, false, false, false, false, false] rfl rfl (any_of HT_.out (by kernel_rfl)) (fun _ _ _ h => h) (Or.inl ⟨by rfl, ?_⟩) ?_ ?_
                  rotate_left
                  · intro w'
                    go_simp
                    with_reducible rfl
                  rotate_left
                  · simp only [Act.put, List.setIfInBounds_toArray, List.set_cons_zero, List.set_cons_succ, i64_w, i32_w]
                    rfl
                  refine pure_ (i := 5) (N := some 23) (v := undef) (a' := ?_) #[true, true, true, true, true, true, false, false, false, false, false, false, false, false, false, false, false, false, false, false, false, false, false, false, false, false, false, false, false, false, false, false, false, false, false] rfl rfl (any_of HT_.out (by kernel_rfl)) (fun _ _ _ h => h) (Or.inr ⟨by rfl, rfl⟩) ?_ ?_
                  rotate_left
                  · simp only [Act.put, List.setIfInBounds_toArray, List.set_cons_zero, List.set_cons_succ, i64_w, i32_w]
                    rfl
                  refine pure_ (i := 6) (N := some 24) (v := undef) (a' := ?_) #[true, true, true, true, true, true, true, false, false, false, false, false, false, false, false, false, false, false, false, false, false, false, false, false, false, false, false, false, false, false, false, false, false, false, false] rfl rfl (any_of HT_.out (by kernel_rfl)) (fun _ _ _ h => h) (Or.inr ⟨by rfl, rfl⟩) ?_ ?_
                  rotate_left
                  · simp only [Act.put, List.setIfInBounds_toArray, List.set_cons_zero, List.set_cons_succ, i64_w, i32_w]
                    rfl
                  refine pure_ (i := 7) (N := some 25) (v := undef) (a' := ?_) #[true, true, true, true, true, true, true, true, false, false, false, false, false, false, false, false, false, false, false, false, false, false, false, false, false, false, false, false, false, false, false, false, false, false, false] rfl rfl (any_of HT_.out (by kernel_rfl)) (fun _ _ _ h => h) (Or.inr ⟨by rfl, rfl⟩) ?_ ?_
                  rotate_left
                  · simp only [Act.put, List.setIfInBounds_toArray, List.set_cons_zero, List.set_cons_succ, i64_w, i32_w]
                    rfl
                  refine pure_ (i := 8) (N := some 26) (v := undef) (a' := ?_) #[true, true, true, true, true, true, true, true, true, false, false, false, false, false, false, false, false, false, false, false, false, false, false, false, false, false, false, false, false, false, false, false, false, false, false] rfl rfl (any_of HT_.out (by kernel_rfl)) (fun _ _ _ h => h) (Or.inr ⟨by rfl, rfl⟩) ?_ ?_
                  rotate_left
                  · simp only [Act.put, List.setIfInBounds_toArray, List.set_cons_zero, List.set_cons_succ, i64_w, i32_w]
                    rfl
                  refine pure_ (i := 9) (N := some 27) (v := undef) (a' := ?_) #[true, true, true, true, true, true, true, true, true, true, false, false, false, false, false, false, false, false, false, false, false, false, false, false, false, false, false, false, false, false, false, false, false, false, false] rfl rfl (any_of HT_.out (by kernel_rfl)) (fun _ _ _ h => h) (Or.inr ⟨by rfl, rfl⟩) ?_ ?_
                  rotate_left
                  · simp only [Act.put, List.setIfInBounds_toArray, List.set_cons_zero, List.set_cons_succ, i64_w, i32_w]
                    rfl
                  refine pure_ (i := 10) (N := some 28) (v := undef) (a' := ?_) #[true, true, true, true, true, true, true, true, true, true, true, false, false, false, false, false, false, false, false, false, false, false, false, false, false, false, false, false, false, false, false, false, false, false, false] rfl rfl (any_of HT_.out (by kernel_rfl)) (fun _ _ _ h => h) (Or.inr ⟨by rfl, rfl⟩) ?_ ?_
                  rotate_left
                  · simp only [Act.put, List.setIfInBounds_toArray, List.set_cons_zero, List.set_cons_succ, i64_w, i32_w]
                    rfl
                  refine pure_ (i := 11) (N := some 29) (v := undef) (a' := ?_) #[true, true, true, true, true, true, true, true, true, true, true, true, false, false, false, false, false, false, false, false, false, false, false, false, false, false, false, false, false, false, false, false, false, false, false] rfl rfl (any_of HT_.out (by kernel_rfl)) (fun _ _ _ h => h) (Or.inr ⟨by rfl, rfl⟩) ?_ ?_
                  rotate_left
                  · simp only [Act.put, List.setIfInBounds_toArray, List.set_cons_zero, List.set_cons_succ, i64_w, i32_w]
                    rfl
                  refine pure_ (i := 12) (N := some 30) (v := undef) (a' := ?_) #[true, true, true, true, true, true, true, true, true, true, true, true, true, false, false, false, false, false, false, false, false, false, false, false, false, false, false, false, false, false, false, false, false, false, false] rfl rfl (any_of HT_.out (by kernel_rfl)) (fun _ _ _ h => h) (Or.inr ⟨by rfl, rfl⟩) ?_ ?_
                  rotate_left
                  · simp only [Act.put, List.setIfInBounds_toArray, List.set_cons_zero, List.set_cons_succ, i64_w, i32_w]
                    rfl
                  refine pure_ (i := 13) (N := some 31) (v := undef) (a' := ?_) #[true, true, true, true, true, true, true, true, true, true, true, true, true, true, false, false, false, false, false, false, false, false, false, false, false, false, false, false, false, false, false, false, false, false, false] rfl rfl (any_of HT_.out (by kernel_rfl)) (fun _ _ _ h => h) (Or.inr ⟨by rfl, rfl⟩) ?_ ?_
                  rotate_left
                  · simp only [Act.put, List.setIfInBounds_toArray, List.set_cons_zero, List.set_cons_succ, i64_w, i32_w]
                    rfl
                  refine pure_ (i := 14) (N := some 32) (v := undef) (a' := ?_) #[true, true, true, true, true, true, true, true, true, true, true, true, true, true, true, false, false, false, false, false, false, false, false, false, false, false, false, false, false, false, false, false, false, false, false] rfl rfl (any_of HT_.out (by kernel_rfl)) (fun _ _ _ h => h) (Or.inr ⟨by rfl, rfl⟩) ?_ ?_
                  rotate_left
                  · simp only [Act.put, List.setIfInBounds_toArray, List.set_cons_zero, List.set_cons_succ, i64_w, i32_w]
                    rfl
                  refine pure_ (i := 15) (N := some 33) (v := ?_) (a' := ?_) #[true, true, true, true, true, true, true, true, true, true, true, true, true, true, true, true, false, false, false, false, false, false, false, false, false, false, false, false, false, false, false, false, false, false, false] rfl rfl (any_of HT_.out (by kernel_rfl)) (fun _ _ _ h => h) (Or.inl ⟨by rfl, ?_⟩) ?_ ?_
                  rotate_left
                  · intro w'
                    go_simp
                    with_reducible rfl
                  rotate_left
                  · simp only [Act.put, List.setIfInBounds_toArray, List.set_cons_zero, List.set_cons_succ, i64_w, i32_w]
                    rfl
                  refine pure_ (i := 16) (N := some 34) (v := ?_) (a' := ?_) #[true, true, true, true, true, true, true, true, true, true, true, true, true, true, true, true, true, false, false, false, false, false, false, false, false, false, false, false, false, false, false, false, false, false, false] rfl rfl (any_of HT_.out (by kernel_rfl)) (fun _ _ _ h => h) (Or.inl ⟨by rfl, ?_⟩) ?_ ?_
                  rotate_left
                  · intro w'
                    go_simp
                    with_reducible rfl
                  rotate_left
                  · simp only [Act.put, List.setIfInBounds_toArray, List.set_cons_zero, List.set_cons_succ, i64_w, i32_w]
                    rfl
                  refine pure_ (i := 17) (N := some 35) (v := ?_) (a' := ?_) #[true, true, true, true, true, true, true, true, true, true, true, true, true, true, true, true, true, true, false, false, false, false, false, false, false, false, false, false, false, false, false, false, false, false, false] rfl rfl (any_of HT_.out (by kernel_rfl)) (fun _ _ _ h => h) (Or.inl ⟨by rfl, ?_⟩) ?_ ?_
                  rotate_left
                  · intro w'
                    go_simp
                    with_reducible rfl
                  rotate_left
                  · simp only [Act.put, List.setIfInBounds_toArray, List.set_cons_zero, List.set_cons_succ, i64_w, i32_w]
                    rfl
                  refine pure_ (i := 18) (N := some 36) (v := ?_) (a' := ?_) #[true, true, true, true, true, true, true, true, true, true, true, true, true, true, true, true, true, true, true, false, false, false, false, false, false, false, false, false, false, false, false, false, false, false, false] rfl rfl (any_of HT_.out (by kernel_rfl)) (fun _ _ _ h => h) (Or.inl ⟨by rfl, ?_⟩) ?_ ?_
                  rotate_left
                  · intro w'
                    go_simp
                    with_reducible rfl
                  rotate_left
                  · simp only [Act.put, List.setIfInBounds_toArray, List.set_cons_zero, List.set_cons_succ, i64_w, i32_w]
                    rfl
                  refine pure_ (i := 19) (N := some 37) (v := ?_) (a' := ?_) #[true, true, true, true, true, true, true, true, true, true, true, true, true, true, true, true, true, true, true, true, false, false, false, false, false, false, false, false, false, false, false, false, false, false, false] rfl rfl (any_of HT_.out (by kernel_rfl)) (fun _ _ _ h => h) (Or.inl ⟨by rfl, ?_⟩) ?_ ?_
                  rotate_left
                  · intro w'
                    go_simp
                    with_reducible rfl
                  rotate_left
                  · simp only [Act.put, List.setIfInBounds_toArray, List.set_cons_zero, List.set_cons_succ, i64_w, i32_w]
                    rfl
                  refine pure_ (i := 20) (N := some 38) (v := ?_) (a' := ?_) #[true, true, true, true, true, true, true, true, true, true, true, true, true, true, true, true, true, true, true, true, true, false, false, false, false, false, false, false, false, false, false, false, false, false, false] rfl rfl (any_of HT_.out (by kernel_rfl)) (fun _ _ _ h => h) (Or.inl ⟨by rfl, ?_⟩) ?_ ?_
                  rotate_left
                  · intro w'
                    go_simp
                    with_reducible rfl
                  rotate_left
                  · simp only [Act.put, List.setIfInBounds_toArray, List.set_cons_zero, List.set_cons_succ, i64_w, i32_w]
                    rfl
                  refine pure_ (i := 21) (N := some 39) (v := ?_) (a' := ?_) #[true, true, true, true, true, true, true, true, true, true, true, true, true, true, true, true, true, true, true, true, true, true, false, false, false, false, false, false, false, false, false, false, false, false, false] rfl rfl (any_of HT_.out (by kernel_rfl)) (fun _ _ _ h => h) (Or.inl ⟨by rfl, ?_⟩) ?_ ?_
                  rotate_left
                  · intro w'
                    go_simp
                    with_reducible rfl
                  rotate_left
                  · simp only [Act.put, List.setIfInBounds_toArray, List.set_cons_zero, List.set_cons_succ, i64_w, i32_w]
                    rfl
                  refine pure_ (i := 22) (N := some 40) (v := ?_) (a' := ?_) #[true, true, true, true, true, true, true, true, true, true, true, true, true, true, true, true, true, true, true, true, true, true, true, false, false, false, false, false, false, false, false, false, false, false, false] rfl rfl (any_of HT_.out (by kernel_rfl)) (fun _ _ _ h => h) (Or.inl ⟨by rfl, ?_⟩) ?_ ?_
                  rotate_left
                  · intro w'
                    go_simp
                    with_reducible rfl
                  rotate_left
                  · simp only [Act.put, List.setIfInBounds_toArray, List.set_cons_zero, List.set_cons_succ, i64_w, i32_w]
                    rfl
                  refine pure_ (i := 23) (N := some 41) (v := ?_) (a' := ?_) #[true, true, true, true, true, true, true, true, true, true, true, true, true, true, true, true, true, true, true, true, true, true, true, true, false, false, false, false, false, false, false, false, false, false, false] rfl rfl (any_of HT_.out (by kernel_rfl)) (fun _ _ _ h => h) (Or.inl ⟨by rfl, ?_⟩) ?_ ?_
                  rotate_left
                  · intro w'
                    go_simp
                    with_reducible rfl
                  rotate_left
                  · simp only [Act.put, List.setIfInBounds_toArray, List.set_cons_zero, List.set_cons_succ, i64_w, i32_w]
                    rfl
                  refine pure_ (i := 24) (N := some 42) (v := ?_) (a' := ?_) #[true, true, true, true, true, true, true, true, true, true, true, true, true, true, true, true, true, true, true, true, true, true, true, true, true, false, false, false, false, false, false, false, false, false, false] rfl rfl (any_of HT_.out (by kernel_rfl)) (fun _ _ _ h => h) (Or.inl ⟨by rfl, ?_⟩) ?_ ?_
                  rotate_left
                  · intro w'
                    go_simp
                    with_reducible rfl
                  rotate_left
                  · simp only [Act.put, List.setIfInBounds_toArray, List.set_cons_zero, List.set_cons_succ, i64_w, i32_w]
                    rfl
                  refine pure_ (i := 26) (N := some 44) (v := ?_) (a' := ?_) #[true, true, true, true, true, true, true, true, true, true, true, true, true, true, true, true, true, true, true, true, true, true, true, true, true, false, true, false, false, false, false, false, false, false, false] rfl rfl (any_of HT_.out (by kernel_rfl)) (fun _ _ _ h => h) (Or.inl ⟨by rfl, ?_⟩) ?_ ?_
                  rotate_left
                  · intro w'
                    go_simp
                    with_reducible rfl
                  rotate_left
                  · simp only [Act.put, List.setIfInBounds_toArray, List.set_cons_zero, List.set_cons_succ, i64_w, i32_w]
                    rfl
                  refine pure_ (i := 27) (N := some 45) (v := ?_) (a' := ?_) #[true, true, true, true, true, true, true, true, true, true, true, true, true, true, true, true, true, true, true, true, true, true, true, true, true, false, true, true, false, false, false, false, false, false, false] rfl rfl (any_of HT_.out (by kernel_rfl)) (fun _ _ _ h => h) (Or.inl ⟨by rfl, ?_⟩) ?_ ?_
                  rotate_left
                  · intro w'
                    go_simp
                    with_reducible rfl
                  rotate_left
                  · simp only [Act.put, List.setIfInBounds_toArray, List.set_cons_zero, List.set_cons_succ, i64_w, i32_w]
                    rfl
                  refine pure_ (i := 28) (N := some 46) (v := ?_) (a' := ?_) #[true, true, true, true, true, true, true, true, true, true, true, true, true, true, true, true, true, true, true, true, true, true, true, true, true, false, true, true, true, false, false, false, false, false, false] rfl rfl (any_of HT_.out (by kernel_rfl)) (fun _ _ _ h => h) (Or.inl ⟨by rfl, ?_⟩) ?_ ?_
                  rotate_left
                  · intro w'
                    go_simp
                    with_reducible rfl
                  rotate_left
                  · simp only [Act.put, List.setIfInBounds_toArray, List.set_cons_zero, List.set_cons_succ, i64_w, i32_w]
                    rfl
                  refine pure_ (i := 29) (N := some 47) (v := ?_) (a' := ?_) #[true, true, true, true, true, true, true, true, true, true, true, true, true, true, true, true, true, true, true, true, true, true, true, true, true, false, true, true, true, true, false, false, false, false, false] rfl rfl (any_of HT_.out (by kernel_rfl)) (fun _ _ _ h => h) (Or.inl ⟨by rfl, ?_⟩) ?_ ?_
                  rotate_left
                  · intro w'
                    go_simp
                    with_reducible rfl
                  rotate_left
                  · simp only [Act.put, List.setIfInBounds_toArray, List.set_cons_zero, List.set_cons_succ, i64_w, i32_w]
                    rfl
                  refine take_ (i := 25) (N := some 43) (v := ?_) (a' := ?_) #[true, true, true, true, true, true, true, true, true, true, true, true, true, true, true, true, true, true, true, true, true, true, true, true, true, true, true, true, true, true, false, false, false, false, false] rfl rfl (take_ofW HT_.out HW_.out (by kernel_rfl)) (fun _ _ _ h => h) (Or.inl ⟨by rfl, ?_⟩) hHeld ?_ ?_
                  rotate_left
                  · rintro w' ⟨s0, s1, s2⟩
                    go_simp
                    with_reducible rfl
                  rotate_left
                  · simp only [Act.put, List.setIfInBounds_toArray, List.set_cons_zero, List.set_cons_succ, i64_w, i32_w]
                    rfl
                  refine one_ (i := 30) (N := some 48) #[true, true, true, true, true, true, true, true, true, true, true, true, true, true, true, true, true, true, true, true, true, true, true, true, true, true, true, true, true, true, true, false, false, false, false] rfl rfl (one_of HT_.out (by kernel_rfl)) (by decide) (fun K hK => ?_)
                  refine goes_ Tryz.func36 (by kernel_rfl) rfl #[.int .i64 700000, .int .i64 (wrap64 (x5_1 - (l1.length : Int)))] (by rfl) rfl rfl (by (try simp only [List.map_toArray, List.map_cons, List.map_nil]); first | done | rfl | (simp only [List.length_drop, List.length_take]; rfl)) ?_
                  with_reducible refine (daybookkeep_markColumns.calls 700000 (wrap64 (x5_1 - (l1.length : Int))) t212 t213 t214 _ ?side1 A27.out).mono ?_
                  (case side1 => first | exact HLd.out | exact Laid.below HLd.out (by repeat (first | (with_reducible first | exact HB.out | apply below_alloc | apply pw_below_drewN | apply below_drew1) | exact HB.out)))
                  rintro e w31 ⟨rfl, hb⟩
                  refine ⟨_, rfl, ?_⟩
                  have n0_ := Aside0.mk (below_step (by repeat (first | (with_reducible first | exact HB.out | apply below_alloc | apply pw_below_drewN | apply below_drew1) | exact HB.out)) hb)
                  clear HB
                  have HB := n0_
                  clear n0_
                  (try clear hb)
                  (try clear hb2)
                  (try clear hk)
                  (try clear hi)
                  refine hK.out _ _ ⟨((HB.out.cell (World.block_lt_of_cell? w _ hw211_0)).trans hw211_0), ((HB.out.cell (World.block_lt_of_cell? w _ hw211_1)).trans hw211_1), ((HB.out.cell (World.block_lt_of_cell? w _ hw211_2)).trans hw211_2)⟩ (fun hHeld => ?_)
                  clear hK K
                  refine norm_ (a' := ?_) ?_ ?_
                  rotate_left
                  · show Act.put _ (some 48) _ = _
                    simp only [Act.put, List.setIfInBounds_toArray, List.set_cons_zero, List.set_cons_succ, i64_w, i32_w]
                    rfl
                  refine one_ (i := 31) (N := some 49) #[true, true, true, true, true, true, true, true, true, true, true, true, true, true, true, true, true, true, true, true, true, true, true, true, true, true, true, true, true, true, true, true, false, false, false] rfl rfl (one_of HT_.out (by kernel_rfl)) (by decide) (fun K hK => ?_)
                  refine goes_ Tryz.func53 (by kernel_rfl) rfl #[.agg #[.string ((rd_T31 l0 x5_1).f0), .int .i64 ((rd_T31 l0 x5_1).f1), .int .i64 ((rd_T31 l0 x5_1).f2)], .agg #[.string t212, .int .i64 t213, .int .i64 t214]] (by rfl) rfl rfl (by (try simp only [List.map_toArray, List.map_cons, List.map_nil]); first | done | rfl | (simp only [List.length_drop, List.length_take]; rfl)) ?_
                  with_reducible refine (daybookkeep_sameColumns.calls ((rd_T31 l0 x5_1).f0) ((rd_T31 l0 x5_1).f1) ((rd_T31 l0 x5_1).f2) t212 t213 t214 true _ A28.out).mono ?_
                  rintro e w32 ⟨rfl, hb⟩
                  refine ⟨_, rfl, ?_⟩
                  have n0_ := Aside0.mk (below_step (by repeat (first | (with_reducible first | exact HB.out | apply below_alloc | apply pw_below_drewN | apply below_drew1) | exact HB.out)) hb)
                  clear HB
                  have HB := n0_
                  clear n0_
                  (try clear hb)
                  (try clear hb2)
                  (try clear hk)
                  (try clear hi)
                  refine hK.out _ _ ⟨((HB.out.cell (World.block_lt_of_cell? w _ hw211_0)).trans hw211_0), ((HB.out.cell (World.block_lt_of_cell? w _ hw211_1)).trans hw211_1), ((HB.out.cell (World.block_lt_of_cell? w _ hw211_2)).trans hw211_2)⟩ (fun hHeld => ?_)
                  clear hK K
                  refine norm_ (a' := ?_) ?_ ?_
                  rotate_left
                  · show Act.put _ (some 49) _ = _
                    simp only [Act.put, List.setIfInBounds_toArray, List.set_cons_zero, List.set_cons_succ, i64_w, i32_w]
                    rfl
                  refine pure_ (i := 32) (N := some 50) (v := ?_) (a' := ?_) #[true, true, true, true, true, true, true, true, true, true, true, true, true, true, true, true, true, true, true, true, true, true, true, true, true, true, true, true, true, true, true, true, true, false, false] rfl rfl (any_of HT_.out (by kernel_rfl)) (fun _ _ _ h => h) (Or.inl ⟨by rfl, ?_⟩) ?_ ?_
                  rotate_left
                  · intro w'
                    go_simp
                    with_reducible rfl
                  rotate_left
                  · simp only [Act.put, List.setIfInBounds_toArray, List.set_cons_zero, List.set_cons_succ, i64_w, i32_w]
                    rfl
                  refine pure_ (i := 33) (N := some 51) (v := ?_) (a' := ?_) #[true, true, true, true, true, true, true, true, true, true, true, true, true, true, true, true, true, true, true, true, true, true, true, true, true, true, true, true, true, true, true, true, true, true, false] rfl rfl (any_of HT_.out (by kernel_rfl)) (fun _ _ _ h => h) (Or.inl ⟨by rfl, ?_⟩) ?_ ?_
                  rotate_left
                  · intro w'
                    go_simp
                    with_reducible rfl
                  rotate_left
                  · simp only [Act.put, List.setIfInBounds_toArray, List.set_cons_zero, List.set_cons_succ, i64_w, i32_w]
                    rfl
                  refine pure_ (i := 34) (N := some 52) (v := ?_) (a' := ?_) #[true, true, true, true, true, true, true, true, true, true, true, true, true, true, true, true, true, true, true, true, true, true, true, true, true, true, true, true, true, true, true, true, true, true, true] rfl rfl (any_of HT_.out (by kernel_rfl)) (fun _ _ _ h => h) (Or.inl ⟨by rfl, ?_⟩) ?_ ?_
                  rotate_left
                  · intro w'
                    go_simp
                    with_reducible rfl
                  rotate_left
                  · simp only [Act.put, List.setIfInBounds_toArray, List.set_cons_zero, List.set_cons_succ, i64_w, i32_w]
                    rfl
                  refine done_ (done_of HT_.out (by kernel_rfl)) ?_
                  try go_wp2
                  go_roundg k1
                  case measure => have := HK1.out; omega
                  case rel => exact ⟨(wrap64 (x5_1 + 1)), (by first | rfl | (simp; done) | (simp [*]; done)), H', ⟨by have := HK1.out; omega⟩, ⟨by repeat (first | (with_reducible first | exact HB.out | apply below_alloc | apply pw_below_drewN | apply below_drew1) | exact HB.out)⟩⟩
                · exact absurd (Option.some.inj (A28.out.symm.trans (HG2.out x5_1 (of_decide_eq_true c25b0) (of_decide_eq_true c4b0) _ A27.out))) c29
              · rw [if_neg c26] at H
                exact absurd H (by simp)
            · exact absurd (by omega : x5_1 < (l1.length : Int)) (of_decide_eq_false c5b0)
        · rw [if_neg c4] at H
          have c4b0 : decide (x5_1 < (l0.length : Int)) = false := decide_eq_false c4
          clear c4
          obtain rfl := Option.some.inj H
          go_wp2
          go_ret
          exact ⟨by first | rfl | (simp [errW_none, errW_some] <;> rfl) | (simp [*, errW_none, errW_some] <;> rfl), by repeat (first | (with_reducible first | exact HB.out | apply below_alloc | apply pw_below_drewN | apply below_drew1) | exact HB.out)⟩
  · rw [if_neg c3] at H
    have c3b0 : ((l0.length : Int) == (wrap64 ((l1.length : Int) + 64))) = false := beq_eq_false_iff_ne.mpr c3
    have c3b1 : ((l0.length : Int) != (wrap64 ((l1.length : Int) + 64))) = true := bne_iff_ne.mpr c3
    obtain rfl := Option.some.inj H
    go_enter Tryz.func13, Tryz.ntmps13
    go_wp2
    go_ret
    exact ⟨by first | rfl | (simp [errW_none, errW_some] <;> rfl) | (simp [*, errW_none, errW_some] <;> rfl), by repeat (first | (with_reducible first | exact HB.out | apply below_alloc | apply pw_below_drewN | apply below_drew1) | exact HB.out)⟩

end Go.Proofs.YtmimninicegjcaaGreatDoor.QT
/- Plain laws: the document's amounts are money.Print's. -/
namespace Go.Proofs.YtmimninicegjcaaGreatDoor
open Go.RowKit Go.Shelf Go.Lib Go.Proofs.YtmimninicegjcaaGreatDoorW.PrintWords Go.Proofs.YtmimninicegjcaaGreatDoorW.PrintLast
set_option linter.unusedVariables false
set_option linter.unusedSimpArgs false
def dig (v : Nat) : UInt8 := UInt8.ofNat (48 + v % 10)
/-- v's digits, at least m. -/
def digs (v m : Nat) : List UInt8 := if h : v = 0 then List.replicate m 48 else digs (v / 10) (m - 1) ++ [dig v]
termination_by v
decreasing_by omega
theorem digs_zero (m : Nat) : digs 0 m = List.replicate m 48 := by rw [digs, dif_pos rfl]
theorem digs_pos {v : Nat} (h : v ≠ 0) (m : Nat) : digs v m = digs (v / 10) (m - 1) ++ [dig v] := by rw [digs, dif_neg h]
theorem digs_succ (v m : Nat) : digs v (m + 1) = digs (v / 10) m ++ [dig v] := by
  by_cases h : v = 0
  · subst h
    rw [digs_zero, show 0 / 10 = 0 from rfl, digs_zero, List.replicate_succ']
    rfl
  · rw [digs_pos h]
    rfl
theorem digs_one (v : Nat) : digs v 1 = Lib.decDigits v := by
  induction v using Nat.strongRecOn with
  | _ v ih =>
    rw [digs_succ]
    by_cases h : v < 10
    · rw [show v / 10 = 0 by omega, digs_zero, Lib.decDigits, dif_pos h]
      simp only [List.replicate_zero, List.nil_append, dig]
      rw [Nat.mod_eq_of_lt h]
    · rw [Lib.decDigits, dif_neg h, ← ih (v / 10) (by omega)]
      congr 1
      rw [digs_pos (show v / 10 ≠ 0 by omega), digs_pos (show v / 10 ≠ 0 by omega)]
theorem digs_length (v : Nat) : ∀ m, (digs v m).length = max m (if v = 0 then 0 else Lib.nDigits v) := by
  induction v using Nat.strongRecOn with
  | _ v ih =>
    intro m
    by_cases h : v = 0
    · subst h; rw [digs_zero]; simp
    · rw [digs_pos h, List.length_append, List.length_singleton, ih (v / 10) (by omega), if_neg h]
      by_cases h10 : v < 10
      · rw [if_pos (by omega), Lib.nDigits_small h10]; omega
      · rw [if_neg (by omega), Lib.nDigits_big h10]; omega
theorem digs_pad (v m : Nat) : digs v (m + 1) = List.replicate (m + 1 - Lib.nDigits v) 48 ++ Lib.decDigits v := by
  induction m generalizing v with
  | zero =>
    have := Lib.nDigits_pos v
    rw [digs_one, show 0 + 1 - Lib.nDigits v = 0 by omega]
    rfl
  | succ m ih =>
    rw [digs_succ, ih (v / 10)]
    by_cases h : v < 10
    · have h0 : v / 10 = 0 := by omega
      rw [h0, Lib.nDigits_small h, Lib.nDigits_small (by omega : (0 : Nat) < 10), Lib.decDigits_one h, Lib.decDigits_one (by omega : (0 : Nat) < 10)]
      rw [show m + 1 + 1 - 1 = (m + 1 - 1) + 1 by omega, List.replicate_succ']
      simp only [List.append_assoc, dig]
      rw [Nat.mod_eq_of_lt h]
      rfl
    · rw [Lib.nDigits_big h, show m + 1 + 1 - (Lib.nDigits (v / 10) + 1) = m + 1 - Lib.nDigits (v / 10) by omega, List.append_assoc]
      congr 1
      conv => rhs; rw [Lib.decDigits, dif_neg h]
      rfl
/-- The last d digits. -/
def low (a : Nat) : Nat → List UInt8
  | 0 => []
  | d + 1 => low (a / 10) d ++ [dig a]
theorem low_length (d : Nat) : ∀ a, (low a d).length = d := by
  induction d with
  | zero => exact fun a => rfl
  | succ d ih => intro a; rw [low, List.length_append, ih]; rfl
theorem digs_low (d : Nat) : ∀ a m, digs a (m + d) = digs (a / 10 ^ d) m ++ low a d := by
  induction d with
  | zero => intro a m; simp [low]
  | succ d ih =>
    intro a m
    rw [← Nat.add_assoc, digs_succ, ih, low, Nat.div_div_eq_div_mul, ← Nat.pow_succ', List.append_assoc]
theorem digs_mod (d : Nat) : ∀ a, digs (a % 10 ^ d) d = low a d := by
  induction d with
  | zero => intro a; rw [Nat.pow_zero, Nat.mod_one, digs_zero]; rfl
  | succ d ih =>
    intro a
    have h1 : a % 10 ^ (d + 1) / 10 = (a / 10) % 10 ^ d := by rw [Nat.pow_succ', Nat.mod_mul_right_div_self]
    have h2 : dig (a % 10 ^ (d + 1)) = dig a := by
      unfold dig
      rw [Nat.pow_succ', Nat.mod_mul_right_mod]
    rw [digs_succ, h1, h2, ih, low]
theorem money_text (a d : Nat) : (moneyText (a : Int) d).data.toList = if 0 < d then digs (a / 10 ^ d) 1 ++ [46] ++ low a d else digs a 1 := by
  have hp : (padded ⟨(Lib.decDigits a).toArray⟩ d).data.toList = digs a (d + 1) := by
    rw [digs_pad]
    unfold padded
    have hs : (⟨(Lib.decDigits a).toArray⟩ : ByteArray).size = Lib.nDigits a := by rw [mk_size, List.size_toArray, Lib.decDigits_length]
    rw [hs]
    split
    · rename_i h
      rw [ByteArray.data_append]
      simp only [Array.toList_append]
      have : (zerosB (d + 1 - Lib.nDigits a)).data.toList = List.replicate (d + 1 - Lib.nDigits a) 48 := by
        have := Lib.repeatL_replicate 48 1 (d + 1 - Lib.nDigits a)
        simpa [zerosB] using this
      rw [this]
    · rename_i h
      rw [show d + 1 - Lib.nDigits a = 0 by omega]
      simp
  unfold moneyText
  simp only
  rw [if_neg (by omega), Int.natAbs_natCast]
  generalize padded ⟨(Lib.decDigits a).toArray⟩ d = x at *
  unfold pointed
  have hsz : x.size = (digs a (d + 1)).length := by rw [← hp]; simp
  have hl := digs_low d a 1
  rw [Nat.add_comm] at hl
  by_cases hd : 0 < d
  · rw [if_pos hd, if_pos hd]
    have hlen : x.size - d = (digs (a / 10 ^ d) 1).length := by rw [hsz, hl, List.length_append, low_length]; omega
    have e1 : (x.extract 0 (x.size - d)).data.toList = digs (a / 10 ^ d) 1 := by
      rw [ByteArray.data_extract, Array.toList_extract, hp, hlen, hl]
      simp
    have e2 : (x.extract (x.size - d) x.size).data.toList = low a d := by
      rw [ByteArray.data_extract, Array.toList_extract, hp, hlen, hsz, hl]
      simp
    rw [ByteArray.data_append, ByteArray.data_append]
    simp only [Array.toList_append, e1, e2]
  · have : d = 0 := by omega
    subst this
    rw [if_neg hd, if_neg hd, hp]
end Go.Proofs.YtmimninicegjcaaGreatDoor
/- Plain laws: daybookref17.money is moneyText from 0 on. -/
namespace Go.Proofs.YtmimninicegjcaaGreatDoor
open Go.RowKit Go.Shelf Go.Lib Go.Proofs.YtmimninicegjcaaGreatDoorW.PrintWords Go.Proofs.YtmimninicegjcaaGreatDoorW.PrintLast
set_option linter.unusedVariables false
set_option linter.unusedSimpArgs false
theorem ba_ext {a b : ByteArray} (h : a.data.toList = b.data.toList) : a = b := by
  obtain ⟨⟨a⟩⟩ := a
  obtain ⟨⟨b⟩⟩ := b
  exact congrArg (fun l => (⟨⟨l⟩⟩ : ByteArray)) h
theorem byte_of (v : Nat) (h : v ≤ 9223372036854775807) : (strOfNums [(wrap64 (48 + (Int.tmod (v : Int) 10))) % 256]).data.toList = [dig v] := by
  have e : (wrap64 (48 + (Int.tmod (v : Int) 10))) % 256 = ((48 + v % 10 : Nat) : Int) := by
    rw [Int.tmod_eq_emod_of_nonneg (by omega)]
    unfold wrap64
    omega
  rw [e]
  unfold strOfNums dig
  simp only [List.map_cons, List.map_nil, Int.toNat_natCast]
theorem digits_loop (least : Nat) : ∀ (k v : Nat) (s : ByteArray), v ≤ 9223372036854775807 → least ≤ 100 → s.size + (digs v (least - s.size)).length ≤ 1000 → (digs v (least - s.size)).length < k →
    ∃ r, QT.daybookref01_Digits.l0 k (v : Int) (least : Int) s = some r ∧ r.data.toList = digs v (least - s.size) ++ s.data.toList := by
  intro k
  induction k with
  | zero => intro v s _ _ _ hk; omega
  | succ k ih =>
    intro v s hv hl hs hk
    have wd : wrap64 (Int.tdiv (v : Int) 10) = ((v / 10 : Nat) : Int) := by
      rw [Int.tdiv_eq_ediv_of_nonneg (by omega)]
      unfold wrap64
      omega
    have hb := byte_of v hv
    simp only [QT.daybookref01_Digits.l0, Option.bind_some]
    generalize hB : strOfNums [(wrap64 (48 + (Int.tmod (v : Int) 10))) % 256] = B at *
    have hB1 : B.size = 1 := by
      have := congrArg List.length hb
      simpa using this
    have hsz : (B ++ s).size = s.size + 1 := by rw [ByteArray.size_append]; omega
    have go : digs v (least - s.size) = digs (v / 10) (least - (s.size + 1)) ++ [dig v] →
        ∃ r, (if B.size + s.size ≤ 9223372036854775807 then QT.daybookref01_Digits.l0 k (wrap64 (Int.tdiv (v : Int) 10)) (least : Int) (B ++ s) else none) = some r ∧ r.data.toList = digs v (least - s.size) ++ s.data.toList := by
      intro he
      rw [he, List.length_append, List.length_singleton] at hs hk
      rw [if_pos (by omega), wd]
      obtain ⟨r, h1, h2⟩ := ih (v / 10) (B ++ s) (by omega) hl (by rw [hsz]; omega) (by rw [hsz]; omega)
      refine ⟨r, h1, ?_⟩
      rw [h2, hsz, he, ByteArray.data_append]
      simp only [Array.toList_append, hb, List.append_assoc]
    by_cases h0 : v = 0
    · rw [if_neg (by omega)]
      by_cases hm : s.size < least
      · rw [if_pos (by omega)]
        refine go ?_
        rw [show least - s.size = (least - (s.size + 1)) + 1 by omega, digs_succ]
      · rw [if_neg (by omega)]
        refine ⟨s, rfl, ?_⟩
        rw [h0, digs_zero, show least - s.size = 0 by omega]
        rfl
    · rw [if_pos (by omega)]
      refine go ?_
      rw [digs_pos h0, show least - s.size - 1 = least - (s.size + 1) by omega]
theorem digits_some (v least : Nat) (hv : v ≤ 9223372036854775807) (hl : least ≤ 100) : ∀ k, 200 ≤ k → ∃ r, QT.daybookref01_Digits.f k (v : Int) (least : Int) = some r ∧ r.data.toList = digs v least := by
  intro k hk
  have hlen : (digs v least).length ≤ 120 := by
    rw [digs_length]
    have := Lib.nDigits_le20 v (by omega)
    split <;> omega
  have e0 : (⟨#[]⟩ : ByteArray).size = 0 := rfl
  obtain ⟨r, h1, h2⟩ := digits_loop least k v ⟨#[]⟩ hv hl (by rw [e0, Nat.sub_zero]; omega) (by rw [e0, Nat.sub_zero]; omega)
  refine ⟨r, h1, ?_⟩
  rw [h2, e0, Nat.sub_zero]
  simp
theorem ten0 : QT.daybookref01_ten.f 10 0 = some 1 := by kernel_rfl
theorem ten1 : QT.daybookref01_ten.f 10 1 = some 10 := by kernel_rfl
theorem ten2 : QT.daybookref01_ten.f 10 2 = some 100 := by kernel_rfl
theorem ten3 : QT.daybookref01_ten.f 10 3 = some 1000 := by kernel_rfl
theorem ten4 : QT.daybookref01_ten.f 10 4 = some 10000 := by kernel_rfl
theorem ten5 : QT.daybookref01_ten.f 10 5 = some 100000 := by kernel_rfl
theorem ten6 : QT.daybookref01_ten.f 10 6 = some 1000000 := by kernel_rfl
theorem ten_some (d : Nat) (hd : d ≤ 6) : ∀ k, 10 ≤ k → QT.daybookref01_ten.f k (d : Int) = some ((10 ^ d : Nat) : Int) := by
  intro k hk
  have h10 : QT.daybookref01_ten.f 10 (d : Int) = some ((10 ^ d : Nat) : Int) := by
    have : d = 0 ∨ d = 1 ∨ d = 2 ∨ d = 3 ∨ d = 4 ∨ d = 5 ∨ d = 6 := by omega
    rcases this with rfl | rfl | rfl | rfl | rfl | rfl | rfl
    · exact ten0
    · exact ten1
    · exact ten2
    · exact ten3
    · exact ten4
    · exact ten5
    · exact ten6
  exact at_rounds (g := fun k => QT.daybookref01_ten.f k (d : Int)) (fun k => QT.daybookref01_ten.mono _ k) hk h10
theorem money_some (a d : Nat) (ha : a ≤ 9223372036854775807) (hd : d ≤ 6) : ∀ k, 300 ≤ k → QT.daybookref17_money.f k (a : Int) (d : Int) = some (moneyText (a : Int) d) := by
  intro k hk
  obtain ⟨k, rfl⟩ : ∃ m, k = m + 2 := ⟨k - 2, by omega⟩
  have hp : 0 < 10 ^ d := Nat.pow_pos (by decide)
  have hp2 : 10 ^ d ≤ 10 ^ 6 := Nat.pow_le_pow_right (by decide) hd
  have hpb : (10 ^ d : Nat) ≤ 1000000 := hp2
  have w1 : wrap64 (Int.tdiv (a : Int) ((10 ^ d : Nat) : Int)) = ((a / 10 ^ d : Nat) : Int) := by
    rw [Int.tdiv_eq_ediv_of_nonneg (by omega), ← Int.natCast_ediv]
    have := Nat.div_le_self a (10 ^ d)
    generalize a / 10 ^ d = q at *
    unfold wrap64
    omega
  have w2 : Int.tmod (a : Int) ((10 ^ d : Nat) : Int) = ((a % 10 ^ d : Nat) : Int) := by
    rw [Int.tmod_eq_emod_of_nonneg (by omega), ← Int.natCast_emod]
  have ht := ten_some d hd k (by omega)
  obtain ⟨r1, h1, h2⟩ := digits_some (a / 10 ^ d) 1 (Nat.le_trans (Nat.div_le_self _ _) ha) (by decide) k (by omega)
  rw [show ((1 : Nat) : Int) = 1 from rfl] at h1
  obtain ⟨r2, h3, h4⟩ := digits_some (a % 10 ^ d) d (Nat.le_trans (Nat.mod_le _ _) ha) (by omega) k (by omega)
  have hl1 : r1.size ≤ 30 := by
    have := congrArg List.length h2
    rw [digs_length] at this
    have h5 := Lib.nDigits_le20 (a / 10 ^ d) (by have := Nat.div_le_self a (10 ^ d); omega)
    have h6 : r1.data.toList.length = r1.size := by simp
    rw [h6] at this
    split at this <;> omega
  have hl2 : r2.size = d := by
    have := congrArg List.length h4
    rw [digs_mod, low_length] at this
    simpa using this
  unfold QT.daybookref17_money.f QT.daybookref01_Print.f
  rw [if_neg (by omega)]
  have hx : decide ((d : Int) > 6) = false := decide_eq_false (by omega)
  rw [hx]
  have e0 : (⟨#[]⟩ : ByteArray).size = 0 := rfl
  have e1 : (⟨#[46]⟩ : ByteArray).size = 1 := rfl
  have hne : ¬ ((10 ^ d : Nat) : Int) = 0 := by omega
  have hm := money_text a d
  simp only [QT.daybookref01_Print.j0, QT.daybookref01_Is.f, Option.bind_some]
  rw [if_neg (by decide), if_pos (by simp; try omega), if_neg (by omega)]
  simp only [QT.daybookref01_Print.j1]
  rw [ht]
  simp only [Option.bind_some]
  rw [if_neg hne, w1, h1]
  simp only [Option.bind_some]
  rw [if_pos (by omega)]
  by_cases hd0 : 0 < d
  · rw [if_pos (by omega), if_pos (by rw [ByteArray.size_append]; omega), if_neg hne, w2, h3]
    simp only [Option.bind_some]
    rw [if_pos (by simp only [ByteArray.size_append]; omega)]
    simp only [Option.bind_some]
    congr 1
    refine ba_ext ?_
    rw [hm, if_pos hd0]
    simp only [ByteArray.data_append, Array.toList_append, h2, h4, digs_mod]
    simp
  · rw [if_neg (by omega)]
    simp only [Option.bind_some]
    congr 1
    refine ba_ext ?_
    have hd00 : d = 0 := by omega
    subst hd00
    rw [hm, if_neg hd0]
    simp only [ByteArray.data_append, Array.toList_append, h2]
    simp
end Go.Proofs.YtmimninicegjcaaGreatDoor
/- Plain laws: the document's names are chart.Good's. -/
namespace Go.Proofs.YtmimninicegjcaaGreatDoor
open Go.RowKit Go.Shelf Go.Lib Go.Proofs.YtmimninicegjcaaGreatDoorW.PrintWords Go.Proofs.YtmimninicegjcaaGreatDoorW.PrintLast
set_option linter.unusedVariables false
set_option linter.unusedSimpArgs false
/-! ### split at the colon -/
def segs : List UInt8 → List (List UInt8)
  | [] => [[]]
  | c :: l => if c = 58 then [] :: segs l else match segs l with | p :: ps => (c :: p) :: ps | [] => [[c]]
theorem segs_ne (l : List UInt8) : ∃ p ps, segs l = p :: ps := by
  cases l with
  | nil => exact ⟨[], [], rfl⟩
  | cons c l =>
    unfold segs
    split
    · exact ⟨_, _, rfl⟩
    · split
      · exact ⟨_, _, rfl⟩
      · exact ⟨_, _, rfl⟩
theorem index_cons_ne (b : UInt8) (l : List UInt8) (h : b ≠ 58) : Lib.index (b :: l) [58] = if Lib.index l [58] == -1 then -1 else Lib.index l [58] + 1 := by
  have hp : ([58] : List UInt8).isPrefixOf (b :: l) = false := by simp [List.isPrefixOf, Ne.symm h]
  rw [Lib.index, hp]
  simp
theorem splitK_segs : ∀ l : List UInt8, Lib.splitK [58] 0 (Lib.count l [58]) l = segs l
  | [] => by rw [Lib.count_miss (by simp [Lib.index])]; rfl
  | c :: l => by
    have ih := splitK_segs l
    by_cases h : c = 58
    · subst h
      have hix : Lib.index (58 :: l) [58] = ((0 : Nat) : Int) := by rw [Lib.index]; simp [List.isPrefixOf]
      rw [Lib.count_cons_eq, Nat.add_comm, Lib.splitK, hix, segs, if_pos rfl, ← ih]
      simp
    · rw [Lib.count_cons_ne c 58 l h, segs, if_neg h]
      by_cases hm : Lib.index l [58] = -1
      · rw [Lib.count_miss hm] at ih ⊢
        rw [← ih]
        rfl
      · have hge := Lib.index_ge l [58]
        obtain ⟨j, hj⟩ : ∃ j : Nat, Lib.index l [58] = j := ⟨(Lib.index l [58]).toNat, by omega⟩
        have hix' : Lib.index (c :: l) [58] = ((j + 1 : Nat) : Int) := by rw [index_cons_ne c l h, if_neg (fun e => hm (beq_iff_eq.1 e)), hj]; omega
        rw [Lib.count_hit (by simp) hj, Nat.add_comm] at ih ⊢
        rw [Lib.splitK, hj] at ih
        rw [Lib.splitK, hix', ← ih]
        have n1 : ¬ ((((j : Nat) : Int)) == -1) = true := fun e => by have := beq_iff_eq.1 e; omega
        have n2 : ¬ ((((j + 1 : Nat) : Int)) == -1) = true := fun e => by have := beq_iff_eq.1 e; omega
        rw [if_neg n1, if_neg n2]
        simp
/-! ### parts -/
def upB (c : UInt8) : Bool := decide (65 ≤ (c.toNat : Int) ∧ (c.toNat : Int) ≤ 90)
def okB (c : UInt8) : Bool := okByte (c.toNat : Int)
def contOk : Nat → List UInt8 → Bool
  | n, [] => decide (0 < n)
  | n, c :: p => (if n = 0 then upB c else okB c) && (decide (n + 1 ≤ 16) && contOk (n + 1) p)
theorem contOk_succ : ∀ (p : List UInt8) (n : Nat), 0 < n → n ≤ 16 → contOk n p = (decide (n + p.length ≤ 16) && p.all okB)
  | [], n, hn, h16 => by simp [contOk, hn, h16]
  | c :: p, n, hn, h16 => by
    rw [contOk, if_neg (by omega), List.all_cons, List.length_cons]
    by_cases h : n + 1 ≤ 16
    · rw [contOk_succ p (n + 1) (by omega) h, decide_eq_true h]
      rw [show n + (p.length + 1) = n + 1 + p.length by omega]
      cases okB c <;> simp
    · rw [decide_eq_false h, decide_eq_false (show ¬ n + (p.length + 1) ≤ 16 by omega)]
      simp
theorem up_ok {c : UInt8} (h : upB c = true) : okB c = true := by
  unfold upB at h
  unfold okB okByte
  simp only [decide_eq_true_eq] at h
  simp [h]
theorem bt_nat (s : ByteArray) (i : Nat) (h : i < s.data.toList.length) : bt s (i : Int) = ((s.data.toList[i]'h).toNat : Int) := by
  have h2 : ((i : Int)).toNat < s.size := by simpa using h
  unfold bt
  rw [dif_pos h2]
  rfl
theorem all_range (s : ByteArray) : ((List.range s.size).all fun i => okByte (bt s i)) = s.data.toList.all okB := by
  rw [Bool.eq_iff_iff, List.all_eq_true, List.all_eq_true]
  constructor
  · intro h c hc
    obtain ⟨i, hi, rfl⟩ := List.mem_iff_getElem.1 hc
    have := h i (List.mem_range.2 (by simpa using hi))
    rw [bt_nat s i hi] at this
    exact this
  · intro h i hi
    have hi2 : i < s.data.toList.length := by simpa using List.mem_range.1 hi
    rw [bt_nat s i hi2]
    exact h _ (List.getElem_mem hi2)
theorem partOk_cont (s : ByteArray) : partOk s = contOk 0 s.data.toList := by
  unfold partOk
  rw [all_range]
  have hsz : s.size = s.data.toList.length := by simp
  have hb := fun h => bt_nat s 0 h
  rw [hsz]
  generalize s.data.toList = l at *
  cases l with
  | nil => simp [contOk]
  | cons c p =>
    have e := hb (by simp)
    rw [show ((0 : Nat) : Int) = 0 from rfl] at e
    rw [e, contOk, if_pos rfl, contOk_succ p 1 (by omega) (by omega), List.all_cons]
    simp only [List.getElem_cons_zero, List.length_cons]
    by_cases hu : upB c = true
    · have hk := up_ok hu
      have hu2 : decide (65 ≤ (c.toNat : Int) ∧ (c.toNat : Int) ≤ 90) = true := hu
      rw [hu, hu2, hk]
      have : decide (1 ≤ p.length + 1 ∧ p.length + 1 ≤ 16) = decide (1 + p.length ≤ 16) := by congr 1; simp; omega
      rw [this]
      simp
    · rw [Bool.not_eq_true] at hu
      have hu2 : decide (65 ≤ (c.toNat : Int) ∧ (c.toNat : Int) ≤ 90) = false := hu
      rw [hu, hu2]
      simp
/-! ### the document's walk over a name -/
def scan : List UInt8 → Nat → Nat → Bool
  | [], parts, n => decide (0 < n) && decide (parts ≤ 6)
  | c :: l, parts, n => if c = 58 then (if n = 0 then false else scan l (parts + 1) 0) else (if n = 0 then upB c else okB c) && (decide (n + 1 ≤ 16) && scan l parts (n + 1))
theorem scan_segs : ∀ (l : List UInt8) (parts n : Nat), n ≤ 16 → ∀ p ps, segs l = p :: ps → scan l parts n = (contOk n p && (ps.all (contOk 0) && decide (parts + ps.length ≤ 6)))
  | [], parts, n, hn, p, ps, h => by
    simp only [segs, List.cons.injEq] at h
    obtain ⟨rfl, rfl⟩ := h
    simp [scan, contOk]
  | c :: l, parts, n, hn, p, ps, h => by
    obtain ⟨q, qs, hq⟩ := segs_ne l
    by_cases hc : c = 58
    · rw [segs, if_pos hc, hq] at h
      simp only [List.cons.injEq] at h
      obtain ⟨rfl, rfl⟩ := h
      rw [scan, if_pos hc]
      by_cases h0 : n = 0
      · rw [if_pos h0, h0]; simp [contOk]
      · rw [if_neg h0, scan_segs l (parts + 1) 0 (by omega) q qs hq, contOk, decide_eq_true (by omega : 0 < n), List.all_cons, List.length_cons]
        rw [show parts + 1 + qs.length = parts + (qs.length + 1) by omega]
        cases contOk 0 q <;> simp
    · rw [segs, if_neg hc, hq] at h
      simp only [List.cons.injEq] at h
      obtain ⟨rfl, rfl⟩ := h
      rw [scan, if_neg hc, contOk]
      by_cases h16 : n + 1 ≤ 16
      · rw [scan_segs l parts (n + 1) h16 q qs hq]
        cases (if n = 0 then upB c else okB c) <;> cases decide (n + 1 ≤ 16) <;> simp
      · rw [decide_eq_false h16]; simp
theorem upper_f (c : Int) : QT.daybookref05_upper.f c = some (decide (65 ≤ c ∧ c ≤ 90)) := by
  unfold QT.daybookref05_upper.f
  split
  · rename_i h; congr 1; simp; omega
  · rename_i h; congr 1; simp; omega
theorem lower_f (c : Int) : QT.daybookref05_lower.f c = some (decide (97 ≤ c ∧ c ≤ 122)) := by
  unfold QT.daybookref05_lower.f
  split
  · rename_i h; congr 1; simp; omega
  · rename_i h; congr 1; simp; omega
theorem digit_f (c : Int) : QT.daybookref05_digit.f c = some (decide (48 ≤ c ∧ c ≤ 57)) := by
  unfold QT.daybookref05_digit.f
  split
  · rename_i h; congr 1; simp; omega
  · rename_i h; congr 1; simp; omega
theorem name_loop (s : ByteArray) (hs : s.size ≤ 1099511627776) (d : Nat) : ∀ (i k parts n : Nat), i + d = s.size → 2 * d < k → parts ≤ i + 1 → n ≤ 16 →
    QT.daybookref05_Name.l0 k s (parts : Int) (n : Int) (i : Int) = some (scan (s.data.toList.drop i) parts n) := by
  induction d with
  | zero =>
    intro i k parts n hi hk hp hn
    obtain ⟨k, rfl⟩ : ∃ m, k = m + 1 := ⟨k - 1, by omega⟩
    simp only [QT.daybookref05_Name.l0]
    rw [if_neg (by omega), List.drop_of_length_le (by simp; omega), scan]
    by_cases h : 0 < n
    · rw [if_pos (by omega), decide_eq_true h]; simp; omega
    · rw [if_neg (by omega), decide_eq_false h]; simp
  | succ d ih =>
    intro i k parts n hi hk hp hn
    obtain ⟨k, rfl⟩ : ∃ m, k = m + 2 := ⟨k - 2, by omega⟩
    have hlt : i < s.data.toList.length := by simp; omega
    simp only [QT.daybookref05_Name.l0]
    rw [if_pos (by omega), if_pos (by omega), upper_f, lower_f, digit_f]
    simp only [Option.bind_some]
    rw [bt_nat s i hlt, List.drop_eq_getElem_cons hlt, scan]
    have ihA := fun q m (hq : q ≤ i + 2) hm => ih (i + 1) (k + 1) q m (by omega) (by omega) hq hm
    have ihB := fun m hm => ih (i + 1) k parts m (by omega) (by omega) (by omega) hm
    have wi : wrap64 ((i : Int) + 1) = ((i + 1 : Nat) : Int) := by unfold wrap64; omega
    have wp : wrap64 ((parts : Int) + 1) = ((parts + 1 : Nat) : Int) := by unfold wrap64; omega
    have wn : wrap64 ((n : Int) + 1) = ((n + 1 : Nat) : Int) := by unfold wrap64; omega
    generalize s.data.toList[i] = c at *
    have hc58 : ((c.toNat : Int) = 58) ↔ c = 58 := by
      rw [← UInt8.toNat_inj]
      simp
      omega
    have step : ∀ b : Bool, QT.daybookref05_Name.j1 (k + 1) s (parts : Int) (n : Int) (i : Int) b = if b = true then some false else some (decide (n + 1 ≤ 16) && scan (s.data.toList.drop (i + 1)) parts (n + 1)) := fun b => by
      simp only [QT.daybookref05_Name.j1]
      by_cases hb : b = true
      · rw [if_pos hb, if_pos hb]
      · rw [if_neg hb, if_neg hb, wn]
        by_cases h16 : n + 1 ≤ 16
        · rw [if_neg (by omega), wi, ihB (n + 1) h16, decide_eq_true h16]; simp
        · rw [if_pos (by omega), decide_eq_false h16]; simp
    by_cases hc : c = 58
    · rw [if_pos (hc58.2 hc), if_pos hc]
      by_cases h0 : n = 0
      · rw [if_pos (by omega), if_pos h0]
      · rw [if_neg (by omega), if_neg h0, wp, wi]
        exact ihA (parts + 1) 0 (by omega) (by omega)
    · rw [if_neg (fun e => hc (hc58.1 e)), if_neg hc]
      simp only [step]
      have eu : decide (65 ≤ (c.toNat : Int) ∧ (c.toNat : Int) ≤ 90) = upB c := rfl
      rw [eu]
      by_cases h0 : n = 0
      · rw [if_pos (by omega), if_pos h0]
        cases upB c <;> simp
      · rw [if_neg (by omega), if_neg h0]
        unfold okB okByte
        rw [eu]
        cases upB c
        · by_cases h1 : 97 ≤ (c.toNat : Int) ∧ (c.toNat : Int) ≤ 122
          · simp [h1]
          · by_cases h2 : 48 ≤ (c.toNat : Int) ∧ (c.toNat : Int) ≤ 57
            · simp [h1, h2]
            · by_cases h3 : (c.toNat : Int) = 45
              · simp [h1, h2, h3]
              · simp [h1, h2, h3]
        · simp
theorem sum_segs : ∀ (l : List UInt8) p ps, segs l = p :: ps → l.length = p.length + ps.length + (ps.map List.length).sum
  | [], p, ps, h => by
    simp only [segs, List.cons.injEq] at h
    obtain ⟨rfl, rfl⟩ := h
    rfl
  | c :: l, p, ps, h => by
    obtain ⟨q, qs, hq⟩ := segs_ne l
    have ih := sum_segs l q qs hq
    rw [segs, hq] at h
    split at h
    · simp only [List.cons.injEq] at h
      obtain ⟨rfl, rfl⟩ := h
      simp only [List.length_cons, List.length_nil, List.map_cons, List.sum_cons]
      omega
    · simp only [List.cons.injEq] at h
      obtain ⟨rfl, rfl⟩ := h
      simp only [List.length_cons]
      omega
theorem contOk_len {p : List UInt8} (h : contOk 0 p = true) : p.length ≤ 16 := by
  cases p with
  | nil => simp
  | cons c p =>
    rw [contOk, contOk_succ p 1 (by omega) (by omega)] at h
    simp only [Bool.and_eq_true, decide_eq_true_eq] at h
    simp only [List.length_cons]
    omega
theorem name_some (s : ByteArray) (hs : s.size ≤ 1099511627776) : QT.daybookref05_Name.f (2 * s.size + 1) s = some (goodName s) := by
  unfold QT.daybookref05_Name.f
  have h := name_loop s hs s.size 0 (2 * s.size + 1) 1 0 (by omega) (by omega) (by omega) (by omega)
  rw [show ((1 : Nat) : Int) = 1 from rfl, show ((0 : Nat) : Int) = 0 from rfl] at h
  rw [h, List.drop_zero]
  obtain ⟨p, ps, hp⟩ := segs_ne s.data.toList
  rw [scan_segs _ 1 0 (by omega) p ps hp]
  have hmap : (partsOf s).map (·.data.toList) = p :: ps := by
    unfold partsOf
    rw [Lib.splitB_data]
    have : Lib.countB s colon = Lib.count s.data.toList [58] := rfl
    rw [this]
    exact (splitK_segs _).trans hp
  have hall : (partsOf s).all partOk = (p :: ps).all (contOk 0) := by
    rw [← hmap, List.all_map]
    congr 1
    funext x
    exact partOk_cont x
  have hlen : (partsOf s).length = ps.length + 1 := by
    have := congrArg List.length hmap
    simpa using this
  unfold goodName
  rw [hall, hlen, List.all_cons]
  by_cases h1 : (contOk 0 p && (ps.all (contOk 0) && decide (1 + ps.length ≤ 6))) = true
  · rw [h1]
    simp only [Bool.and_eq_true, decide_eq_true_eq] at h1
    obtain ⟨ha, hb, hc⟩ := h1
    have hsz : s.size ≤ 102 := by
      have e := sum_segs _ p ps hp
      have hl := contOk_len ha
      have hk : (ps.map List.length).sum ≤ ps.length * 16 := by
        rw [List.all_eq_true] at hb
        have : ∀ m : List (List UInt8), (∀ x ∈ m, contOk 0 x = true) → (m.map List.length).sum ≤ m.length * 16 := by
          intro m
          induction m with
          | nil => simp
          | cons x m ih =>
            intro hm
            have := ih (fun y hy => hm y (by simp [hy]))
            have := contOk_len (hm x (by simp))
            simp only [List.map_cons, List.sum_cons, List.length_cons]
            omega
        exact this ps hb
      have : s.size = s.data.toList.length := by simp
      omega
    rw [decide_eq_true hsz, decide_eq_true (show ps.length + 1 ≤ 6 by omega), ha, hb]
    rfl
  · rw [Bool.not_eq_true] at h1
    rw [h1]
    have : decide (ps.length + 1 ≤ 6) = decide (1 + ps.length ≤ 6) := by congr 1; simp; omega
    rw [this]
    cases hA : contOk 0 p <;> cases hB : ps.all (contOk 0) <;> cases hC : decide (1 + ps.length ≤ 6) <;> simp_all
end Go.Proofs.YtmimninicegjcaaGreatDoor
/- Plain laws: the document's grid is gridText. -/
namespace Go.Proofs.YtmimninicegjcaaGreatDoor
open Go.RowKit Go.Shelf Go.Lib Go.Proofs.YtmimninicegjcaaGreatDoorW.PrintWords Go.Proofs.YtmimninicegjcaaGreatDoorW.PrintLast
set_option linter.unusedVariables false
set_option linter.unusedSimpArgs false
theorem rd_rows (l : List (List ByteArray)) (i : Nat) (h : i < l.length) : QT.rd_L4 l (i : Int) = l[i] := by
  simp [QT.rd_L4, List.getD_eq_getElem?_getD, List.getElem?_eq_getElem h]
theorem rd_strs (l : List ByteArray) (i : Nat) (h : i < l.length) : rdOf ByteArray.empty l (i : Int) = l[i] := by
  simp [rdOf, List.getD_eq_getElem?_getD, List.getElem?_eq_getElem h]
theorem wide_loop (l : List (List ByteArray)) (c : Nat) (hl : l.length ≤ 1099511627776) (d : Nat) : ∀ (i k m : Nat), i + d = l.length → d < k →
    QT.daybookref17_wide.l0 k l (c : Int) (m : Int) (i : Int) = some (((l.drop i).foldl (fun m r => max m (sizeAt r c)) m : Nat) : Int) := by
  induction d with
  | zero =>
    intro i k m hi hk
    obtain ⟨k, rfl⟩ : ∃ m, k = m + 1 := ⟨k - 1, by omega⟩
    simp only [QT.daybookref17_wide.l0]
    rw [if_neg (by omega), List.drop_of_length_le (by omega)]
    rfl
  | succ d ih =>
    intro i k m hi hk
    obtain ⟨k, rfl⟩ : ∃ m, k = m + 1 := ⟨k - 1, by omega⟩
    have hlt : i < l.length := by omega
    simp only [QT.daybookref17_wide.l0]
    rw [if_pos (by omega), if_pos (by omega), rd_rows l i hlt, show wrap64 ((i : Int) + 1) = ((i + 1 : Nat) : Int) by unfold wrap64; omega]
    rw [List.drop_eq_getElem_cons hlt, List.foldl_cons]
    by_cases hc : c < l[i].length
    · rw [if_pos (by omega), if_pos (by omega), rd_strs _ _ hc]
      have e2 : sizeAt l[i] c = (l[i][c]).size := by simp [sizeAt, List.getElem?_eq_getElem hc]
      rw [e2]
      by_cases hm : m < (l[i][c]).size
      · rw [if_pos (by omega), show max m (l[i][c]).size = (l[i][c]).size by omega]
        exact ih (i + 1) k _ (by omega) (by omega)
      · rw [if_neg (by omega), show max m (l[i][c]).size = m by omega]
        exact ih (i + 1) k _ (by omega) (by omega)
    · rw [if_neg (by omega)]
      have e2 : sizeAt l[i] c = 0 := by simp [sizeAt, List.getElem?_eq_none (Nat.not_lt.1 hc)]
      rw [e2, Nat.max_zero]
      exact ih (i + 1) k _ (by omega) (by omega)
theorem wide_some (l : List (List ByteArray)) (c : Nat) (hl : l.length ≤ 1099511627776) (k : Nat) (hk : l.length < k) : QT.daybookref17_wide.f k l (c : Int) = some (wid l c : Int) :=
  wide_loop l c hl l.length 0 k 0 (by omega) hk
theorem blanks_loop (n : Nat) (hn : n ≤ 1099511627776) (d : Nat) : ∀ (i k : Nat) (s : ByteArray), i + d = n → s.size = i → d < k →
    ∃ r, QT.daybookref17_blanks.l0 k (n : Int) s (i : Int) = some r ∧ r.data.toList = s.data.toList ++ List.replicate d 32 := by
  induction d with
  | zero =>
    intro i k s hi hs hk
    obtain ⟨k, rfl⟩ : ∃ m, k = m + 1 := ⟨k - 1, by omega⟩
    simp only [QT.daybookref17_blanks.l0]
    rw [if_neg (by omega)]
    exact ⟨s, rfl, by simp⟩
  | succ d ih =>
    intro i k s hi hs hk
    obtain ⟨k, rfl⟩ : ∃ m, k = m + 1 := ⟨k - 1, by omega⟩
    simp only [QT.daybookref17_blanks.l0]
    rw [if_pos (by omega), if_pos (by omega), show wrap64 ((i : Int) + 1) = ((i + 1 : Nat) : Int) by unfold wrap64; omega]
    have e1 : (⟨#[32]⟩ : ByteArray).size = 1 := rfl
    obtain ⟨r, h1, h2⟩ := ih (i + 1) k (s ++ ⟨#[32]⟩) (by omega) (by rw [ByteArray.size_append]; omega) (by omega)
    refine ⟨r, h1, ?_⟩
    rw [h2, ByteArray.data_append, List.replicate_succ]
    simp
theorem blanks_some (n : Nat) (hn : n ≤ 1099511627776) (k : Nat) (hk : n < k) : ∃ r, QT.daybookref17_blanks.f k (n : Int) = some r ∧ r.data.toList = List.replicate n 32 := by
  obtain ⟨r, h1, h2⟩ := blanks_loop n hn n 0 k ⟨#[]⟩ (by omega) rfl hk
  exact ⟨r, h1, by rw [h2]; simp⟩
theorem len3 (c : Nat) (hc : c < 3) : (c : Int) < (([false, true, true] : List Bool).length : Int) := by
  have : (([false, true, true] : List Bool).length : Int) = 3 := rfl
  omega
theorem right3 (c : Nat) (hc : c < 3) : rdOf false ([false, true, true] : List Bool) (c : Int) = fromOne c := by
  have : c = 0 ∨ c = 1 ∨ c = 2 := by omega
  rcases this with rfl | rfl | rfl <;> rfl
/-! ### the blanks at a line's end -/
theorem trim_drop (l : List UInt8) (x : UInt8) : Lib.trimRightB (l ++ [x]) 32 = if x = 32 then Lib.trimRightB l 32 else l ++ [x] := by
  unfold Lib.trimRightB
  rw [List.reverse_append, List.reverse_singleton, List.singleton_append, List.dropWhile_cons]
  by_cases h : x = 32
  · rw [if_pos (by simp [h]), if_pos h]
  · rw [if_neg (by simp [h]), if_neg h]
    simp
set_option maxHeartbeats 4000000 in
set_option maxRecDepth 100000 in
theorem trim_loop (rows : List (List ByteArray)) (acc : ByteArray) (i : Nat) (hi : i ≤ 1099511627776) (s : ByteArray) (hs : s.size ≤ 1099511627776) (hacc : acc.size ≤ 4611686018427387904) : ∀ (n k : Nat), n ≤ s.size → n < k →
    ∃ k' acc', k - n ≤ k' + 1 ∧ QT.daybookref17_Grid.l2 k rows [false, true, true] acc (i : Int) s (n : Int) = QT.daybookref17_Grid.l0 k' rows [false, true, true] acc' ((i + 1 : Nat) : Int) ∧ acc'.data.toList = acc.data.toList ++ (Lib.trimRightB (s.data.toList.take n) 32 ++ [10]) := by
  have wi : wrap64 ((i : Int) + 1) = ((i + 1 : Nat) : Int) := by unfold wrap64; omega
  have ex : ∀ n : Nat, n ≤ s.size → (s.extract 0 ((n : Int)).toNat).data.toList = s.data.toList.take n := fun n hn => by
    rw [Int.toNat_natCast, ByteArray.data_extract, Array.toList_extract]
    simp
  have exs : ∀ n : Nat, n ≤ s.size → (s.extract 0 ((n : Int)).toNat).size = n := fun n hn => by
    rw [Int.toNat_natCast, ByteArray.size_extract]; omega
  have e1 : (⟨#[10]⟩ : ByteArray).size = 1 := rfl
  intro n
  induction n with
  | zero =>
    intro k hn hk
    obtain ⟨k, rfl⟩ : ∃ m, k = m + 1 := ⟨k - 1, by omega⟩
    simp only [QT.daybookref17_Grid.l2]
    have hx := exs 0 (by omega)
    have hy := ex 0 (by omega)
    rw [if_neg (by omega), if_pos (by omega), if_pos (by omega), if_pos (by omega), if_pos (by rw [ByteArray.size_append]; omega), wi]
    refine ⟨k, _, by omega, rfl, ?_⟩
    rw [ByteArray.data_append, ByteArray.data_append]
    simp only [Array.toList_append, hy, List.append_assoc]
    rfl
  | succ n ih =>
    intro k hn hk
    obtain ⟨k, rfl⟩ : ∃ m, k = m + 1 := ⟨k - 1, by omega⟩
    have hlt : n < s.data.toList.length := by simp; omega
    have wn : wrap64 (((n + 1 : Nat) : Int) - 1) = (n : Int) := by unfold wrap64; omega
    simp only [QT.daybookref17_Grid.l2]
    rw [if_pos (by omega), wn, if_pos (by omega), if_pos (by omega), bt_nat s n hlt, List.take_succ_eq_append_getElem hlt, trim_drop]
    have h32 : ((s.data.toList[n].toNat : Int) = 32) ↔ s.data.toList[n] = 32 := by
      rw [← UInt8.toNat_inj]
      simp
      omega
    by_cases h : s.data.toList[n] = 32
    · rw [if_pos (h32.2 h), if_pos h]
      obtain ⟨k', acc', h1, h2, h3⟩ := ih k (by omega) (by omega)
      exact ⟨k', acc', by omega, h2, h3⟩
    · rw [if_neg (fun e => h (h32.1 e)), if_neg h]
      have hx := exs (n + 1) hn
      have hy := ex (n + 1) hn
      rw [List.take_succ_eq_append_getElem hlt] at hy
      rw [if_pos (by omega), if_pos (by omega), if_pos (by omega), if_pos (by rw [ByteArray.size_append]; omega), wi]
      refine ⟨k, _, by omega, rfl, ?_⟩
      rw [ByteArray.data_append, ByteArray.data_append]
      simp only [Array.toList_append, hy, List.append_assoc]
end Go.Proofs.YtmimninicegjcaaGreatDoor
/- Plain laws: one line of the document's grid. -/
namespace Go.Proofs.YtmimninicegjcaaGreatDoor
open Go.RowKit Go.Shelf Go.Lib Go.Proofs.YtmimninicegjcaaGreatDoorW.PrintWords Go.Proofs.YtmimninicegjcaaGreatDoorW.PrintLast
set_option linter.unusedVariables false
set_option linter.unusedSimpArgs false
/-! ### one line -/
set_option maxHeartbeats 4000000 in
set_option maxRecDepth 100000 in
theorem line_loop (right : List Bool) (hRt : ∀ c : Nat, c < 3 → (c : Int) < (right.length : Int)) (hRv : ∀ c : Nat, c < 3 → rdOf false right (c : Int) = fromOne c) (rows : List (List ByteArray)) (B M : Nat) (hB2 : (B : Int) ≤ 1099511627776) (hM2 : (M : Int) ≤ 1099511627776) (hN : rows.length < B) (hW : ∀ c, wid rows c < B) (i : Nat) (hi : i < rows.length) (h3 : rows[i].length = 3) (hS : ∀ c, c ≤ 3 → (lineTo fromOne (wid rows) rows[i] c).length ≤ M) (acc : ByteArray) (d : Nat) :
    ∀ (c k kk : Nat) (s : ByteArray), c + d = 3 → B ≤ kk → k = kk + 2 * d + 1 → s.data.toList = lineTo fromOne (wid rows) rows[i] c →
    ∃ s', QT.daybookref17_Grid.l1 k rows right acc (i : Int) s (c : Int) = QT.daybookref17_Grid.l2 kk rows right acc (i : Int) s' (s'.size : Int) ∧ s'.data.toList = lineTo fromOne (wid rows) rows[i] 3 := by
  have hsz : ∀ c, (h : c < rows[i].length) → rows[i][c].size ≤ wid rows c := fun c hc => by
    have := sizeAt_le rows rows[i] (List.getElem_mem hi) c
    unfold sizeAt at this
    rwa [List.getElem?_eq_getElem hc] at this
  induction d with
  | zero =>
    intro c k kk s hc hk hkk hs
    subst hkk
    rw [show kk + 2 * 0 + 1 = kk + 1 from rfl]
    obtain rfl : c = 3 := by omega
    simp only [QT.daybookref17_Grid.l1]
    rw [if_pos (by omega), if_pos (by omega), rd_rows rows i hi, if_neg (by omega)]
    exact ⟨s, by simp, hs⟩
  | succ d ih =>
    intro c k0 kk s hc hk hkk hs
    obtain ⟨k, hkd⟩ : ∃ k, k = kk + 2 * d + 1 := ⟨_, rfl⟩
    obtain rfl : k0 = k + 2 := by omega
    have hc3 : c < 3 := Nat.lt_of_lt_of_eq (Nat.lt_of_lt_of_le (Nat.lt_succ_self c) (Nat.le_add_right (c + 1) d)) (by rw [← hc]; omega)
    have hT := eq_true (hRt c hc3)
    have hr3' := hRv c hc3
    have hcl : c < rows[i].length := Nat.lt_of_lt_of_eq hc3 h3.symm
    have hlen : s.size ≤ M := by
      have h1 := hS c (by omega)
      rw [← hs] at h1
      simpa using h1
    have hx := hsz c hcl
    have hwc := hW c
    have step : ∀ t : ByteArray, t.data.toList = s.data.toList ++ (if 0 < c then [32, 32] else []) →
        ∃ s', QT.daybookref17_Grid.j2 (k + 1) rows right acc (i : Int) t (c : Int) = QT.daybookref17_Grid.l2 kk rows right acc (i : Int) s' (s'.size : Int) ∧ s'.data.toList = lineTo fromOne (wid rows) rows[i] 3 := by
      intro t ht
      have htl : t.size ≤ M + 2 := by
        have := congrArg List.length ht
        rw [List.length_append] at this
        have h1 : t.data.toList.length = t.size := by simp
        have h2 : s.data.toList.length = s.size := by simp
        have h4 : (if 0 < c then [32, 32] else [] : List UInt8).length ≤ 2 := by split <;> simp
        omega
      simp only [QT.daybookref17_Grid.j2]
      rw [if_pos (by omega), if_pos (by omega), rd_rows rows i hi, if_pos (by omega), if_pos (by omega), wide_some rows c (by omega) k (by omega), rd_strs _ _ hcl]
      simp only [Option.bind_some]
      obtain ⟨n, hn⟩ : ∃ n : Nat, wid rows c = rows[i][c].size + n := ⟨wid rows c - rows[i][c].size, by omega⟩
      have hw : wrap64 ((wid rows c : Int) - (rows[i][c].size : Int)) = (n : Int) := by unfold wrap64; omega
      rw [hw]
      obtain ⟨b, hb1, hb2⟩ := blanks_some n (by omega) k (by omega)
      rw [hb1]
      simp only [Option.bind_some]
      have hbs : b.size = n := by
        have := congrArg List.length hb2
        simpa using this
      have wi : wrap64 ((c : Int) + 1) = ((c + 1 : Nat) : Int) := by unfold wrap64; omega
      simp only [hT, if_true, hr3', wi]
      have hsucc := lineTo_succ fromOne (wid rows) rows[i] c hcl
      have hdn : wid rows c - rows[i][c].size = n := by omega
      have fin : ∀ u : ByteArray, u.data.toList = lineTo fromOne (wid rows) rows[i] (c + 1) → ∃ s', QT.daybookref17_Grid.l1 k rows right acc (i : Int) u ((c + 1 : Nat) : Int) = QT.daybookref17_Grid.l2 kk rows right acc (i : Int) s' (s'.size : Int) ∧ s'.data.toList = lineTo fromOne (wid rows) rows[i] 3 := by
        intro u hu
        exact ih (c + 1) k kk u (by omega) hk hkd hu
      by_cases hR : fromOne c = true
      · rw [if_pos hR, if_pos (by omega), if_pos (by rw [ByteArray.size_append]; omega)]
        refine fin _ ?_
        rw [hsucc, piece, if_pos hR, ByteArray.data_append, ByteArray.data_append, hdn]
        simp only [Array.toList_append, ht, hb2, hs, List.append_assoc]
      · rw [if_neg hR, if_pos (by omega), if_pos (by rw [ByteArray.size_append]; omega)]
        refine fin _ ?_
        rw [hsucc, piece, if_neg hR, ByteArray.data_append, ByteArray.data_append, hdn]
        simp only [Array.toList_append, ht, hb2, hs, List.append_assoc]
    simp only [QT.daybookref17_Grid.l1]
    rw [if_pos (by omega), if_pos (by omega), rd_rows rows i hi, if_pos (by omega)]
    by_cases hc0 : 0 < c
    · rw [if_pos (by omega), if_pos (by omega)]
      exact step _ (by rw [ByteArray.data_append, if_pos hc0]; simp)
    · rw [if_neg (by omega)]
      exact step _ (by rw [if_neg hc0]; simp)
end Go.Proofs.YtmimninicegjcaaGreatDoor
/- Plain laws: the document's grid is gridText. -/
namespace Go.Proofs.YtmimninicegjcaaGreatDoor
open Go.RowKit Go.Shelf Go.Lib Go.Proofs.YtmimninicegjcaaGreatDoorW.PrintWords Go.Proofs.YtmimninicegjcaaGreatDoorW.PrintLast
set_option linter.unusedVariables false
set_option linter.unusedSimpArgs false
theorem lens3 (rows : List (List ByteArray)) (hW : ∀ c, wid rows c ≤ 4194304) (i : Nat) (hi : i < rows.length) (h3 : rows[i].length = 3) (c : Nat) (hc : c ≤ 3) : (lineTo fromOne (wid rows) rows[i] c).length ≤ 12582918 := by
  have h1 := lineTo_length fromOne (wid rows) rows[i] hW (fun c hc => by
    have := sizeAt_le rows rows[i] (List.getElem_mem hi) c
    unfold sizeAt at this
    rwa [List.getElem?_eq_getElem hc] at this) c (by omega)
  omega
set_option maxHeartbeats 4000000 in
theorem grid_loop (C : Nat) (hC : (C : Int) = 12583000) (rows : List (List ByteArray)) (hN : rows.length ≤ 1048578) (hW : ∀ c, wid rows c ≤ 4194304) (h3 : ∀ r ∈ rows, r.length = 3) (d : Nat) : ∀ (i k : Nat) (acc : ByteArray), i + d = rows.length → d * C + rows.length + 4194400 < k → acc.size ≤ i * 12582919 →
    ∃ r, QT.daybookref17_Grid.l0 k rows [false, true, true] acc (i : Int) = some r ∧ r.data.toList = acc.data.toList ++ ((rows.drop i).map fun r => lineText fromOne (wid rows) r).flatten := by
  induction d with
  | zero =>
    intro i k acc hi hk ha
    obtain ⟨k, rfl⟩ : ∃ m, k = m + 1 := ⟨k - 1, by omega⟩
    simp only [QT.daybookref17_Grid.l0]
    rw [if_neg (by omega), List.drop_of_length_le (by omega)]
    exact ⟨acc, rfl, by simp⟩
  | succ d ih =>
    intro i k acc hi hk ha
    rw [Nat.succ_mul] at hk
    obtain ⟨k, rfl⟩ : ∃ m, k = m + 1 := ⟨k - 1, by omega⟩
    have hlt : i < rows.length := by omega
    simp only [QT.daybookref17_Grid.l0]
    rw [if_pos (by omega)]
    have hr3 := h3 rows[i] (List.getElem_mem hlt)
    obtain ⟨kk, rfl⟩ : ∃ kk, k = kk + 2 * 3 + 1 := ⟨k - 7, by omega⟩
    obtain ⟨s, hl1, hl2⟩ := line_loop [false, true, true] len3 right3 rows 4194305 12582918 (by decide) (by decide) (by omega) (fun c => by have := hW c; omega) i hlt hr3 (lens3 rows hW i hlt hr3) acc 3 0 (kk + 2 * 3 + 1) kk ⟨#[]⟩ (by omega) (by omega) rfl (by simp [lineTo])
    rw [show ((0 : Nat) : Int) = 0 from rfl] at hl1
    rw [hl1]
    have hss : s.size ≤ 12582918 := by
      have h1 := lens3 rows hW i hlt hr3 3 (Nat.le_refl _)
      rw [← hl2] at h1
      have h2 : s.data.toList.length = s.size := by simp
      omega
    obtain ⟨k', acc', hk1, hk2, hk3⟩ := trim_loop rows acc i (by omega) s (by omega) (by omega) s.size kk (Nat.le_refl _) (by omega)
    rw [hk2]
    have htk : s.data.toList.take s.size = s.data.toList := List.take_of_length_le (by simp)
    rw [htk, hl2] at hk3
    have hline : lineText fromOne (wid rows) rows[i] = Lib.trimRightB (lineTo fromOne (wid rows) rows[i] 3) 32 ++ [10] := by unfold lineText; rw [hr3]
    rw [← hline] at hk3
    have hla : acc'.size ≤ (i + 1) * 12582919 := by
      have h1 := congrArg List.length hk3
      rw [List.length_append, hline, List.length_append, List.length_singleton] at h1
      have h4 := trimRightB_length (lineTo fromOne (wid rows) rows[i] 3) 32
      rw [← hl2] at h4
      have h2 : s.data.toList.length = s.size := by simp
      have h5 : acc'.data.toList.length = acc'.size := by simp
      have h6 : acc.data.toList.length = acc.size := by simp
      rw [← hl2] at h1
      omega
    have hf : d * C + rows.length + 4194400 < k' := by omega
    obtain ⟨r, h1, h2⟩ := ih (i + 1) k' acc' (by omega) hf hla
    refine ⟨r, h1, ?_⟩
    rw [h2, hk3, List.drop_eq_getElem_cons hlt, List.map_cons, List.flatten_cons, List.append_assoc]
theorem grid_some (rows : List (List ByteArray)) (hN : rows.length ≤ 1048578) (hW : ∀ c, wid rows c ≤ 4194304) (h3 : ∀ r ∈ rows, r.length = 3) (k : Nat) (hk : rows.length * 12583000 + rows.length + 4194400 < k) :
    QT.daybookref17_Grid.f k rows [false, true, true] = some ⟨(gridText fromOne rows).toArray⟩ := by
  obtain ⟨r, h1, h2⟩ := grid_loop 12583000 rfl rows hN hW h3 rows.length 0 k ⟨#[]⟩ (by omega) hk (by show 0 ≤ _; omega)
  unfold QT.daybookref17_Grid.f
  rw [show ((0 : Nat) : Int) = 0 from rfl] at h1
  rw [h1]
  congr 1
  refine ba_ext ?_
  rw [h2]
  unfold gridText gridTo
  rw [List.drop_zero, List.take_of_length_le (Nat.le_refl _)]
  simp
end Go.Proofs.YtmimninicegjcaaGreatDoor
/- Plain laws: the document's Trial is trialOut. (under way) -/
namespace Go.Proofs.YtmimninicegjcaaGreatDoor
open Go.RowKit Go.Shelf Go.Lib Go.Proofs.YtmimninicegjcaaGreatDoorW.PrintWords Go.Proofs.YtmimninicegjcaaGreatDoorW.PrintLast
set_option linter.unusedVariables false
set_option linter.unusedSimpArgs false
theorem rd_cols (l : List Col) (i : Nat) (h : i < l.length) : QT.rd_T31 l (i : Int) = l[i] := by
  simp [QT.rd_T31, List.getD_eq_getElem?_getD, List.getElem?_eq_getElem h]
theorem digits_f (d : Int) : QT.daybookref17_digits.f d = some (decide (0 ≤ d ∧ d ≤ 6)) := by
  unfold QT.daybookref17_digits.f
  split
  · rename_i h; congr 1; simp; omega
  · rename_i h; congr 1; simp; omega
theorem name_at (s : ByteArray) (hs : s.size ≤ 1048576) (k : Nat) (hk : 2097200 ≤ k) : QT.daybookref05_Name.f k s = some (goodName s) :=
  at_rounds (g := fun k => QT.daybookref05_Name.f k s) (fun k => QT.daybookref05_Name.mono _ k) (by omega) (name_some s (by omega))
/-- A row's side as the document makes it. -/
theorem side_doc (a : Int) (d : Nat) (h0 : 0 ≤ a) : sideText a d = if a > 0 then moneyText a d else ⟨#[]⟩ := by
  unfold sideText
  by_cases h : a = 0
  · rw [if_pos h, if_neg (by omega)]
  · rw [if_neg h, if_pos (by omega)]
theorem money_at (a : Int) (d : Nat) (h0 : 0 ≤ a) (h1 : a ≤ 9223372036854775807) (hd : d ≤ 6) (k : Nat) (hk : 300 ≤ k) : QT.daybookref17_money.f k a (d : Int) = some (moneyText a d) := by
  obtain ⟨n, rfl⟩ : ∃ n : Nat, a = (n : Int) := ⟨a.toNat, by omega⟩
  exact money_some n d (by omega) hd k hk
theorem j1_step (k : Nat) (hk : 300 ≤ k) (l : List Col) (d : Nat) (hd : d ≤ 6) (x6 x7 : List Int) (x8 : List (List ByteArray)) (i : Nat) (hi : i ≤ 1048576) (c : Col) (h1 : 0 ≤ c.f1 ∧ c.f1 ≤ 9223372036854775807) (h2 : 0 ≤ c.f2 ∧ c.f2 ≤ 9223372036854775807)
    (l6 : x6.length ≤ 1048576) (l7 : x7.length ≤ 1048576) (l8 : x8.length ≤ 1048577) :
    QT.daybookref17_Trial.j1 (k + 1) l (d : Int) x6 x7 x8 (i : Int) false c.f0 c.f1 c.f2 = QT.daybookref17_Trial.l0 k l (d : Int) (x6 ++ [c.f1]) (x7 ++ [c.f2]) (x8 ++ [trialRow d c]) ((i + 1 : Nat) : Int) := by
  have wi : wrap64 ((i : Int) + 1) = ((i + 1 : Nat) : Int) := by unfold wrap64; omega
  simp only [QT.daybookref17_Trial.j1, Option.bind_some]
  rw [if_neg (by decide), if_pos (by omega), if_pos (by omega), money_at c.f1 d h1.1 h1.2 hd k hk, money_at c.f2 d h2.1 h2.2 hd k hk, wi]
  unfold trialRow
  rw [side_doc c.f1 d h1.1, side_doc c.f2 d h2.1]
  by_cases a1 : c.f1 > 0
  · by_cases a2 : c.f2 > 0
    · simp [a1, a2]; omega
    · simp [a1, a2]; omega
  · by_cases a2 : c.f2 > 0
    · simp [a1, a2]; omega
    · simp [a1, a2]; omega
theorem first1_ne {y e : Int} (h : y ≠ 0) : first1 y e = y := by unfold first1; rw [if_neg h]
theorem whyCol_ne {y : Int} (c : Col) (h : y ≠ 0) : whyCol y c = y := by
  unfold whyCol
  simp only [first1_ne h]
  split <;> split <;> first | rfl | exact first1_ne h
theorem whyOf_ne : ∀ (l : List Col) (y : Int), y ≠ 0 → whyOf l y = y
  | [], y, h => rfl
  | c :: l, y, h => by
    show whyOf l (whyCol y c) = y
    rw [whyCol_ne c h]
    exact whyOf_ne l y h
end Go.Proofs.YtmimninicegjcaaGreatDoor
/- Plain laws: the document's Trial is trialOut. -/
namespace Go.Proofs.YtmimninicegjcaaGreatDoor
open Go.RowKit Go.Shelf Go.Lib Go.Proofs.YtmimninicegjcaaGreatDoorW.PrintWords Go.Proofs.YtmimninicegjcaaGreatDoorW.PrintLast
set_option linter.unusedVariables false
set_option linter.unusedSimpArgs false
/-- What the document's walk over the rows ends in. -/
theorem trial_loop (l : List Col) (hn : l.length ≤ 1048576) (hs : ∀ c ∈ l, c.f0.size ≤ 1048576) (hi : ∀ c ∈ l, isI64 c.f1 ∧ isI64 c.f2) (d : Nat) (hd : d ≤ 6) (B : Nat) (hB : 2097200 ≤ B) (R : ByteArray × Int)
    (hend : whyOf l 0 = 0 → ∀ k, B ≤ k → QT.daybookref17_Trial.l0 k l (d : Int) (l.map (·.f1)) (l.map (·.f2)) ([head3] ++ l.map (trialRow d)) (l.length : Int) = some R)
    (hbad : whyOf l 0 ≠ 0 → R = (⟨#[]⟩, whyOf l 0)) (m : Nat) :
    ∀ (i k : Nat), i + m = l.length → 2 * m + B ≤ k → whyOf (l.take i) 0 = 0 →
    QT.daybookref17_Trial.l0 k l (d : Int) ((l.take i).map (·.f1)) ((l.take i).map (·.f2)) ([head3] ++ (l.take i).map (trialRow d)) (i : Int) = some R := by
  induction m with
  | zero =>
    intro i k him hk hw
    have : l.take i = l := List.take_of_length_le (by omega)
    rw [this] at hw ⊢
    obtain rfl : i = l.length := by omega
    exact hend hw k (by omega)
  | succ m ih =>
    intro i k him hk hw
    obtain ⟨k, rfl⟩ : ∃ j, k = j + 2 := ⟨k - 2, by omega⟩
    have hlt : i < l.length := by omega
    have hmem := List.getElem_mem hlt
    have hsnoc := whyOf_snoc l 0 i hlt
    rw [hw] at hsnoc
    have hfull : whyOf l 0 = whyOf (l.drop (i + 1)) (whyCol 0 l[i]) := by
      conv => lhs; rw [← List.take_append_drop (i + 1) l]
      unfold whyOf
      rw [List.foldl_append]
      exact congrArg (fun y => List.foldl whyCol y (l.drop (i + 1))) hsnoc
    have hbad2 : ∀ y : Int, whyCol 0 l[i] = y → y ≠ 0 → R = (⟨#[]⟩, y) := fun y hy hne => by
      have hf : whyOf l 0 = y := by rw [hfull, hy, whyOf_ne _ _ hne]
      rw [← hf]
      exact hbad (by rw [hf]; exact hne)
    have hstep := j1_step k (by omega) l d hd ((l.take i).map (·.f1)) ((l.take i).map (·.f2)) ([head3] ++ (l.take i).map (trialRow d)) i (by omega) l[i]
    simp only [QT.daybookref17_Trial.l0]
    rw [if_pos (by omega), if_pos (by omega), rd_cols l i hlt, name_at _ (hs _ hmem) (k + 1) (by omega)]
    simp only [Option.bind_some]
    by_cases hg : goodName l[i].f0 = true
    · rw [if_pos hg]
      by_cases h1 : l[i].f1 < 0
      · rw [if_pos h1]
        simp only [QT.daybookref17_Trial.j1]
        rw [if_pos trivial, hbad2 10 (by unfold whyCol; simp only; rw [if_pos hg, if_pos (.inl h1)]; rfl) (by decide)]
      · rw [if_neg h1]
        by_cases h2 : l[i].f2 < 0
        · rw [decide_eq_true h2]
          simp only [QT.daybookref17_Trial.j1]
          rw [if_pos trivial, hbad2 10 (by unfold whyCol; simp only; rw [if_pos hg, if_pos (.inr h2)]; rfl) (by decide)]
        · rw [decide_eq_false h2]
          have hcol := hi _ hmem
          rw [hstep ⟨by omega, hcol.1.2⟩ ⟨by omega, hcol.2.2⟩ (by simp; omega) (by simp; omega) (by simp; omega)]
          have hw2 : whyOf (l.take (i + 1)) 0 = 0 := by
            rw [hsnoc]
            unfold whyCol
            simp only
            rw [if_pos hg, if_neg (by omega)]
          have hr := ih (i + 1) k (by omega) (by omega) hw2
          rw [List.take_succ_eq_append_getElem hlt, List.map_append, List.map_append, List.map_append, ← List.append_assoc] at hr
          exact hr
    · rw [if_neg hg]
      have hy : whyCol 0 l[i] = 60 := by
        unfold whyCol
        simp only
        rw [if_neg hg]
        have e : first1 0 60 = 60 := rfl
        rw [e, first1_ne (by decide)]
        split <;> rfl
      rw [hbad2 60 hy (by decide)]
end Go.Proofs.YtmimninicegjcaaGreatDoor
/- Plain laws: the document's Trial is trialOut: its end. -/
namespace Go.Proofs.YtmimninicegjcaaGreatDoor
open Go.RowKit Go.Shelf Go.Lib Go.Proofs.YtmimninicegjcaaGreatDoorW.PrintWords Go.Proofs.YtmimninicegjcaaGreatDoorW.PrintLast
set_option linter.unusedVariables false
set_option linter.unusedSimpArgs false
theorem refSum_some {l : List Int} (hn : l.length ≤ 1048576) (h : ∀ a ∈ l, -9223372036854775808 ≤ a ∧ a < 9223372036854775808) : L_RefSum.f l = some (sumSpec l) := by
  unfold L_RefSum.f
  rw [if_pos ⟨hn, by rw [List.all_eq_true]; exact fun a ha => decide_eq_true (h a ha)⟩]
theorem debits_of {l : List Col} (h : ∀ c ∈ l, 0 ≤ c.f1) : l.map (·.f1) = debits l := by
  unfold debits
  exact List.map_congr_left fun c hc => by have := h c hc; unfold mx; split <;> omega
theorem credits_of {l : List Col} (h : ∀ c ∈ l, 0 ≤ c.f2) : l.map (·.f2) = credits l := by
  unfold credits
  exact List.map_congr_left fun c hc => by have := h c hc; unfold mx; split <;> omega
theorem after_ne {y e : Int} (h : y ≠ 0) : after y e 11 = y := by
  unfold after
  split
  · rfl
  · exact first1_ne h
theorem trialOut_bad {l : List Col} {d y : Int} (h : whyOf l (why0 d) = y) (hy : y ≠ 0) : trialOut l d = (⟨#[]⟩, y) := by
  unfold trialOut
  rw [h, after_ne hy, after_ne hy, if_neg hy]
theorem sumSpec_nonneg {l : List Int} (h : ∀ a ∈ l, 0 ≤ a) : 0 ≤ (sumSpec l).1 := by
  have hs : 0 ≤ sumOf l := by
    induction l with
    | nil => exact Int.le_refl _
    | cons a l ih =>
      have e : sumOf (a :: l) = a + sumOf l := rfl
      have h1 := ih (fun x hx => h x (by simp [hx]))
      have h2 := h a (by simp)
      omega
  unfold sumSpec
  split
  · split
    · exact hs
    · exact Int.le_refl _
  · exact Int.le_refl _
theorem mx_nonneg {l : List Col} : (∀ a ∈ debits l, 0 ≤ a) ∧ ∀ a ∈ credits l, 0 ≤ a := by
  constructor
  · intro a ha
    unfold debits at ha
    obtain ⟨c, hc, rfl⟩ := List.mem_map.1 ha
    unfold mx; split <;> omega
  · intro a ha
    unfold credits at ha
    obtain ⟨c, hc, rfl⟩ := List.mem_map.1 ha
    unfold mx; split <;> omega
theorem trial_ref (l : List Col) (d : Int) (hn : l.length ≤ 1048576) (hs : ∀ c ∈ l, c.f0.size ≤ 1048576) (hi : ∀ c ∈ l, isI64 c.f1 ∧ isI64 c.f2) :
    ∃ K, ∀ k, K ≤ k → QT.daybookref17_Trial.f k l d = some (trialOut l d) := by
  unfold QT.daybookref17_Trial.f
  rw [digits_f]
  simp only [Option.bind_some]
  by_cases hd : 0 ≤ d ∧ d ≤ 6
  · obtain ⟨n, rfl⟩ : ∃ n : Nat, d = (n : Int) := ⟨d.toNat, by omega⟩
    have hw0 : why0 (n : Int) = 0 := by unfold why0; rw [if_pos hd]
    obtain ⟨C, hC⟩ : ∃ C : Nat, (C : Int) = 12583000 := ⟨12583000, rfl⟩
    obtain ⟨B, hB⟩ : ∃ B : Nat, ((l.length + 2) * C + 20000000 : Nat) = B := ⟨_, rfl⟩
    refine ⟨2 * l.length + B, fun k hk => ?_⟩
    rw [if_pos (decide_eq_true hd)]
    have := trial_loop l hn hs hi n (by omega) B (by omega) (trialOut l (n : Int)) ?_ (fun hb => trialOut_bad (by rw [hw0]) hb) l.length 0 k (by omega) hk rfl
    · exact this
    · intro hw k hk
      obtain ⟨k, rfl⟩ : ∃ j, k = j + 2 := ⟨k - 2, by omega⟩
      obtain ⟨_, hg⟩ := whyOf_zero l 0 hw
      have e1 := debits_of (fun c hc => (hg c hc).2.1)
      have e2 := credits_of (fun c hc => (hg c hc).2.2)
      have s1 : L_RefSum.f (debits l) = some (sumSpec (debits l)) := refSum_some (by simpa [debits] using hn) (fun a ha => by
        unfold debits at ha
        obtain ⟨c, hc, rfl⟩ := List.mem_map.1 ha
        exact mx_i64 (hi c hc).1)
      have s2 : L_RefSum.f (credits l) = some (sumSpec (credits l)) := refSum_some (by simpa [credits] using hn) (fun a ha => by
        unfold credits at ha
        obtain ⟨c, hc, rfl⟩ := List.mem_map.1 ha
        exact mx_i64 (hi c hc).2)
      simp only [QT.daybookref17_Trial.l0]
      rw [if_neg (by omega), e1, e2, s1, s2]
      simp only [Option.bind_some]
      have hA : after (whyOf l (why0 (n : Int))) (sumSpec (debits l)).2 11 = if (sumSpec (debits l)).2 = 0 then 0 else 11 := by
        rw [hw0, hw]; unfold after first1; split <;> simp
      unfold trialOut
      rw [hA]
      by_cases ha : (sumSpec (debits l)).2 = 0
      · rw [if_pos ha, if_pos ha]
        by_cases hb : (sumSpec (credits l)).2 = 0
        · have hb' : ((sumSpec (credits l)).2 != 0) = false := by simp [hb]
          have hz : after 0 (sumSpec (credits l)).2 11 = 0 := by unfold after; rw [if_pos hb]
          rw [hb', hz, if_pos rfl]
          have oa := sumSpec_ok ha
          have ob := sumSpec_ok hb
          have na := sumSpec_nonneg (mx_nonneg (l := l)).1
          have nb := sumSpec_nonneg (mx_nonneg (l := l)).2
          have hf := trialRows_fits (l := l) (d := n) (a := (sumSpec (debits l)).1) (b := (sumSpec (credits l)).1) hn hg hi (by unfold isI64; omega) (by unfold isI64; omega) (by omega)
          have h3 : ∀ r ∈ trialRows l n (sumSpec (debits l)).1 (sumSpec (credits l)).1, r.length = 3 := by
            intro r hr
            unfold trialRows at hr
            rw [List.mem_append, List.mem_append, List.mem_singleton, List.mem_singleton, List.mem_map] at hr
            rcases hr with (rfl | ⟨c, hc, rfl⟩) | rfl <;> rfl
          have hl : (trialRows l n (sumSpec (debits l)).1 (sumSpec (credits l)).1).length = l.length + 2 := by
            unfold trialRows; simp
          have hgs := grid_some _ (by omega) hf.w h3 k (by rw [hl, show ((12583000 : Nat)) = C by omega]; omega)
          simp only [QT.daybookref17_Trial.j2]
          rw [if_neg (by decide), money_at _ n na (by omega) (by omega) k (by omega), money_at _ n nb (by omega) (by omega) k (by omega)]
          simp only [Option.bind_some]
          rw [if_pos (by simp; omega)]
          have e : ([head3] ++ l.map (trialRow n)) ++ [[⟨#[83, 117, 109]⟩, moneyText (sumSpec (debits l)).1 n, moneyText (sumSpec (credits l)).1 n]] = trialRows l n (sumSpec (debits l)).1 (sumSpec (credits l)).1 := rfl
          rw [e, hgs]
          rfl
        · have hb' : ((sumSpec (credits l)).2 != 0) = true := bne_iff_ne.2 hb
          have hz : after 0 (sumSpec (credits l)).2 11 = 11 := by unfold after; rw [if_neg hb]; rfl
          rw [hb', hz, if_neg (by decide)]
          simp only [QT.daybookref17_Trial.j2]
          rfl
      · rw [if_neg ha, if_neg ha, after_ne (by decide), if_neg (by decide)]
        simp only [QT.daybookref17_Trial.j2]
        rfl
  · have hw0 : why0 d = 1 := by unfold why0; rw [if_neg hd]
    refine ⟨0, fun k _ => ?_⟩
    rw [if_neg (by rw [decide_eq_false hd]; decide), trialOut_bad (y := 1) (by rw [hw0]; exact whyOf_ne l 1 (by decide)) (by decide)]
end Go.Proofs.YtmimninicegjcaaGreatDoor
/- Plain laws: the room behind a list of columns, and that it is kept; like; first. -/
namespace Go.Proofs.YtmimninicegjcaaGreatDoor
open Go.RowKit Go.Shelf Go.Lib Go.Proofs.YtmimninicegjcaaGreatDoorW.PrintWords Go.Proofs.YtmimninicegjcaaGreatDoorW.PrintLast
set_option linter.unusedVariables false
set_option linter.unusedSimpArgs false
theorem room_loop (x : List Col) (hx : x.length ≤ 1048576) (m : Nat) : ∀ i k : Nat, i + m = 64 → m < k → QT.daybookkeep_RoomColumns.l0 k (x ++ marksC i) (i : Int) = some (x ++ marksC 64) := by
  induction m with
  | zero =>
    intro i k hi hk
    obtain ⟨k, rfl⟩ : ∃ j, k = j + 1 := ⟨k - 1, by omega⟩
    obtain rfl : i = 64 := by omega
    simp only [QT.daybookkeep_RoomColumns.l0]
    rw [if_neg (by omega)]
  | succ m ih =>
    intro i k hi hk
    obtain ⟨k, rfl⟩ : ∃ j, k = j + 1 := ⟨k - 1, by omega⟩
    simp only [QT.daybookkeep_RoomColumns.l0]
    rw [if_pos (by omega), markC_some (by omega)]
    simp only [Option.bind_some]
    rw [if_pos (by rw [List.length_append, marksC_length]; omega)]
    have w1 : wrap64 ((i : Int) + 1) = ((i + 1 : Nat) : Int) := by unfold wrap64; omega
    rw [w1, List.append_assoc, ← marksC_succ]
    exact ih (i + 1) k (by omega) (by omega)
theorem room_some (l : List Col) (hl : l.length ≤ 1048576) (k : Nat) (hk : 65 ≤ k) : QT.daybookkeep_RoomColumns.f k l = some (l ++ marksC 64) := by
  unfold QT.daybookkeep_RoomColumns.f
  simp only [Option.bind_some]
  rw [if_pos (by simp; omega)]
  have := room_loop l hl 64 0 k (by omega) (by omega)
  simpa [marksC] using this
theorem kept_one (x : List Col) (y : Int) (h0 : 0 ≤ y) (h1 : y < (x.length : Int)) : QT.rd_T31 (x ++ marksC 64) y = QT.rd_T31 x y := by
  obtain ⟨i, rfl⟩ : ∃ i : Nat, y = (i : Int) := ⟨y.toNat, by omega⟩
  have hi : i < x.length := by omega
  rw [rd_cols _ i (by rw [List.length_append]; omega), rd_cols x i hi, List.getElem_append_left hi]
theorem kept_two (x : List Col) (hx : x.length ≤ 1048576) (y : Int) (h0 : (x.length : Int) ≤ y) (h1 : y < ((x ++ marksC 64).length : Int)) (t : ByteArray × Int × Int) (ht : QT.daybookkeep_markColumns.f 700000 (wrap64 (y - (x.length : Int))) = some t) :
    QT.rd_T31 (x ++ marksC 64) y = ⟨t.1, t.2.1, t.2.2⟩ := by
  obtain ⟨j, rfl⟩ : ∃ j : Nat, y = ((x.length + j : Nat) : Int) := ⟨(y - x.length).toNat, by omega⟩
  have hj : j < 64 := by rw [List.length_append, marksC_length] at h1; omega
  have w2 : wrap64 (((x.length + j : Nat) : Int) - (x.length : Int)) = (j : Int) := by unfold wrap64; omega
  rw [w2, markC_some hj] at ht
  obtain rfl := Option.some.inj ht
  rw [rd_cols _ _ (by rw [List.length_append, marksC_length]; omega), List.getElem_append_right (by omega)]
  simp [marksC]
theorem kept_loop (x : List Col) (hx : x.length ≤ 1048576) (m : Nat) : ∀ i k : Nat, i + m = x.length + 64 → m < k → QT.daybookkeep_KeptColumns.l0 k (x ++ marksC 64) x (i : Int) = some true := by
  induction m with
  | zero =>
    intro i k hi hk
    obtain ⟨k, rfl⟩ : ∃ j, k = j + 1 := ⟨k - 1, by omega⟩
    simp only [QT.daybookkeep_KeptColumns.l0]
    rw [if_neg (by rw [List.length_append, marksC_length]; omega)]
  | succ m ih =>
    intro i k hi hk
    obtain ⟨k, rfl⟩ : ∃ j, k = j + 1 := ⟨k - 1, by omega⟩
    have hlt : i < (x ++ marksC 64).length := by rw [List.length_append, marksC_length]; omega
    have w1 : wrap64 ((i : Int) + 1) = ((i + 1 : Nat) : Int) := by unfold wrap64; omega
    have hr := ih (i + 1) k (by omega) (by omega)
    have hlt2 : (i : Int) < ((x ++ marksC 64).length : Int) := by omega
    simp only [QT.daybookkeep_KeptColumns.l0]
    rw [if_pos hlt2, rd_cols _ i hlt]
    by_cases h : i < x.length
    · have e : (x ++ marksC 64)[i] = x[i] := List.getElem_append_left h
      rw [if_pos (by omega), if_pos (by omega), rd_cols x i h, e, same_refl]
      simp only [Option.bind_some, if_true]
      rw [if_neg (by omega), w1]
      exact hr
    · obtain ⟨j, rfl⟩ : ∃ j, i = x.length + j := ⟨i - x.length, by omega⟩
      have e : (x ++ marksC 64)[x.length + j] = markC j := by
        rw [List.getElem_append_right (by omega)]
        simp [marksC]
      have w2 : wrap64 (((x.length + j : Nat) : Int) - (x.length : Int)) = (j : Int) := by unfold wrap64; omega
      rw [if_neg (by omega), if_pos (by omega), if_pos (by omega), w2, markC_some (by omega)]
      simp only [Option.bind_some]
      rw [e, same_refl]
      simp only [Option.bind_some, if_true]
      rw [w1]
      exact hr
theorem kept_some (l : List Col) (hl : l.length ≤ 1048576) (k : Nat) (hk : l.length + 65 ≤ k) : QT.daybookkeep_KeptColumns.f k (l ++ marksC 64) l = some true := by
  unfold QT.daybookkeep_KeptColumns.f
  rw [if_pos (by rw [List.length_append, marksC_length]; unfold wrap64; omega)]
  exact kept_loop l hl (l.length + 64) 0 k (by omega) (by omega)
theorem keptOk (l : List Col) (hl : l.length ≤ 1048576) : KeptOk (l ++ marksC 64) l := fun W A0 c0 A1 c1 h0 h1 h2 h3 h4 =>
  QT.daybookkeep_KeptColumns.kept (l.length + 65) A0 c0 (l ++ marksC 64) A1 c1 l true W h0 h1 h2 h3 h4
    (fun y h0 h1 => by rw [kept_one l y h0 h1]; exact same_refl _) (fun y h0 h1 t ht => by rw [kept_two l hl y h0 h1 t ht]; exact same_refl ⟨t.1, t.2.1, t.2.2⟩) (kept_some l hl _ (Nat.le_refl _))
theorem like_refl (s : ByteArray) (e : Int) : QT.daybooklaw17_like.f s e s e = some true := by
  unfold QT.daybooklaw17_like.f QT.daybooklaw17_num.f
  simp
theorem first_true : QT.daybooklaw17_first.f = some true := by
  decide +kernel
end Go.Proofs.YtmimninicegjcaaGreatDoor
/- SheetTrials returns true of every list of columns, and leaves the elder memory alone. -/
namespace Go.Proofs.YtmimninicegjcaaGreatDoor
open Go.RowKit Go.Shelf Go.Lib Go.Proofs.YtmimninicegjcaaGreatDoorW.PrintWords Go.Proofs.YtmimninicegjcaaGreatDoorW.PrintLast
set_option linter.unusedVariables false
theorem colOk_all {l : List Col} (hi : ∀ c ∈ l, isI64 c.f1 ∧ isI64 c.f2) : l.all colOk = true := by
  rw [List.all_eq_true]
  intro c hc
  unfold colOk
  simp [(hi c hc).1, (hi c hc).2]
theorem law_true (A : Option Addr) (cp : Nat) (l : List Col) (d : Int) (w : World) (hr : Kd.C QT.k31 w A l.length l) (hc : l.length ≤ cp) (hL : Laid w) (hn : l.length ≤ 1048576) (hs : ∀ c ∈ l, c.f0.size ≤ 1048576) (hi : ∀ c ∈ l, isI64 c.f1 ∧ isI64 c.f2) :
    Calls Tryz.prog 3 #[.slice A l.length cp, .int .i64 d] w fun en w' => en = .returned (.bool true) ∧ Below w.heap.size w w' := by
  obtain ⟨z, hz⟩ : ∃ z : Col, z = ⟨⟨#[90, 122]⟩, 3, 0⟩ := ⟨_, rfl⟩
  obtain ⟨now, hnow⟩ : ∃ now, now = if 0 < l.length then l.set (l.length / 2) z else l := ⟨_, rfl⟩
  have hnl : now.length = l.length := by rw [hnow]; split <;> simp
  have hmem : ∀ c ∈ now, c ∈ l ∨ c = z := by
    intro c hcm
    rw [hnow] at hcm
    split at hcm
    · exact (List.mem_or_eq_of_mem_set hcm)
    · exact .inl hcm
  have hs2 : ∀ c ∈ now, c.f0.size ≤ 1048576 := fun c hcm => by
    rcases hmem c hcm with h | h
    · exact hs c h
    · rw [h, hz]; show (2 : Nat) ≤ 1048576; omega
  have hi2 : ∀ c ∈ now, isI64 c.f1 ∧ isI64 c.f2 := fun c hcm => by
    rcases hmem c hcm with h | h
    · exact hi c h
    · rw [h, hz]; show isI64 3 ∧ isI64 0; unfold isI64; omega
  obtain ⟨K1, h1⟩ := trial_ref l d hn hs hi
  obtain ⟨K2, h2⟩ := trial_ref now d (by omega) hs2 hi2
  obtain ⟨k, hk⟩ : ∃ k, k = K1 + K2 + l.length + 65 := ⟨_, rfl⟩
  have hset : (if 0 < l.length then (l ++ marksC 64).set (l.length / 2) z else l ++ marksC 64) = now ++ marksC 64 := by
    rw [hnow]
    split
    · rw [List.set_append_left _ _ (by omega)]
    · rfl
  refine law_walk k A cp l (l ++ marksC 64) now d w hr hc hL hn (trialOut l d).1 (trialOut l d).2 (trialOut now d).1 (trialOut now d).2
    (room_some l hn k (by omega)) (by simp) (by rw [List.length_append, marksC_length]; omega)
    (by unfold H_Trial.f; rw [if_pos ⟨hn, colOk_all hi⟩]) (h1 k (by omega)) (like_refl _ _) (keptOk l hn) first_true (by rw [hnow, hz])
    (by unfold H_Trial.f; rw [if_pos ⟨by omega, colOk_all hi2⟩]) (h2 k (by omega)) (like_refl _ _) ?_
  have e : (if 0 < l.length then (l ++ marksC 64).set (l.length / 2) ⟨⟨#[90, 122]⟩, 3, 0⟩ else l ++ marksC 64) = now ++ marksC 64 := by rw [← hset, hz]
  rw [e]
  exact keptOk now (by omega)
end Go.Proofs.YtmimninicegjcaaGreatDoor

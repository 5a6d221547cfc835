/- money.Sum, in the form that the printed texts take. -/
import Derived.Shelf.Spec.BitsCarry
import Derived.Outline
import Derived.Deep.QuietTactic
import Derived.BigQuiet
import Derived.Test.YtmimninicegjcaaGreatDoorTbLeafA
namespace Go.Proofs.YtmimninicegjcaaGreatDoor
open Go.RowKit Go.Shelf Go.Lib Go.Proofs.YtmimninicegjcaaGreatDoorW.PrintWords
set_option linter.unusedVariables false
set_option linter.unusedSimpArgs false

theorem add64_run (x y c : Nat) (hc : c ≤ 1) (w : World) :
    (callFunc 146 #[.int .u64 x, .int .u64 y, .int .u64 c]).run Tryz.prog w =
      .ok (.value (.tuple #[.int .u64 (((x + y + c) % 18446744073709551616 : Nat) : Int), .int .u64 (((x + y + c) / 18446744073709551616 : Nat) : Int)])) w := by
  rw [run_callFunc_extern Tryz.func146 (by kernel_rfl) (by kernel_rfl) (by kernel_rfl) (e := add64Entry) (by kernel_rfl), run_add64 x y c (by omega) (by omega) (by omega) (by omega)]
  simp only [Result.andThen]
  congr 5 <;> omega

/-! ### plain arithmetic -/
def hiOf (s : Int) : Int := s / 18446744073709551616
def loOf (s : Int) : Int := s % 18446744073709551616
theorem lo_range (s : Int) : 0 ≤ loOf s ∧ loOf s < 18446744073709551616 := by unfold loOf; omega
theorem step_lo (s a : Int) : ((((loOf s).toNat + (loOf a).toNat + 0) % 18446744073709551616 : Nat) : Int) = loOf (s + a) := by unfold loOf; omega
theorem step_hi (s a : Int) (ha : -9223372036854775808 ≤ a ∧ a < 9223372036854775808) :
    hiOf s + (a / 9223372036854775808 + ((((loOf s).toNat + (loOf a).toNat + 0) / 18446744073709551616 : Nat) : Int)) = hiOf (s + a) := by unfold hiOf loOf; omega
def sumOf (l : List Int) : Int := l.foldr (· + ·) 0
theorem sumOf_snoc (l : List Int) (a : Int) : sumOf (l ++ [a]) = sumOf l + a := by
  unfold sumOf
  induction l with
  | nil => simp
  | cons x l ih => simp only [List.cons_append, List.foldr_cons, ih]; omega
theorem sumOf_bound (l : List Int) (h : ∀ a ∈ l, -9223372036854775808 ≤ a ∧ a < 9223372036854775808) : -9223372036854775808 * (l.length : Int) ≤ sumOf l ∧ sumOf l ≤ 9223372036854775808 * (l.length : Int) := by
  induction l with
  | nil => simp [sumOf]
  | cons x l ih =>
    have h1 := h x (by simp)
    have h2 := ih (fun a ha => h a (by simp [ha]))
    have e : sumOf (x :: l) = x + sumOf l := rfl
    rw [e, List.length_cons]
    omega

def inRange (l : List Int) : Prop := ∀ a ∈ l, -9223372036854775808 < a ∧ a < 9223372036854775808
set_option maxHeartbeats 2000000 in
set_option maxRecDepth 100000 in
/-- All are amounts. -/
theorem Sum_walk (A : Option Addr) (c : Nat) (l : List Int) (w : World) (hc : ∀ ad, A = some ad → ∀ k, (h : k < l.length) → w.cell? (ad.add k) = some (.int .i64 l[k])) (hA : l = [] ∨ ∃ ad, A = some ad)
    (hlen : l.length ≤ 1099511627776) (hr : inRange l) (T U : Int) (hT : (T, U) = if -9223372036854775808 < sumOf l ∧ sumOf l < 9223372036854775808 then (sumOf l, 0) else (0, 11)) :
    Calls Tryz.prog 97 #[.slice A l.length c] w fun e w' => e = .returned (.tuple #[.int .i64 T, .int .i64 U]) ∧ w = w' := by
  have HC := Aside0.mk hc
  have HA := Aside0.mk hA
  have HR := Aside0.mk hr
  have HT := Aside0.mk hT
  have HL := Aside0.mk hlen
  clear hc hA hr hT hlen
  go_enter Tryz.func97, Tryz.ntmps97
  go_wp2
  go_loop [14] (fun v => ∃ k : Nat, v = .int .i64 k ∧ k ≤ l.length) (fun v => l.length - (RowKit.intOf v).toNat)
  case atStart => exact ⟨0, rfl, Nat.zero_le _⟩
  case round =>
    obtain ⟨k, rfl, hk⟩ := hrel
    have i0 : (l.length : Int) ≤ 1099511627776 := by have := HL.out; omega
    by_cases hlt : k < l.length
    · obtain ⟨ad, rfl⟩ : ∃ ad, A = some ad := by
        rcases HA.out with h | h
        · subst h; simp at hlt
        · exact h
      have hcell := HC.out ad rfl k hlt
      have hr1 := HR.out l[k] (List.getElem_mem hlt)
      generalize l[k] = a at *
      have ne : (a == -9223372036854775808) = false := beq_eq_false_iff_ne.2 (by omega)
      have HR1 := Aside0.mk hr1
      clear hr1
      go_wp2
      go_round
      case rel => exact ⟨k + 1, by go_num, by omega⟩
      case measure => simp [RowKit.intOf]; omega
    · have hk' : k = l.length := by omega
      subst hk'
      go_wp2
      go_loop [4, 5, 23] (fun v4 v5 v23 => ∃ k : Nat, v23 = .int .i64 k ∧ k ≤ l.length ∧ v4 = .int .i64 (hiOf (sumOf (l.take k))) ∧ v5 = .int .u64 (loOf (sumOf (l.take k)))) (fun _ _ v => l.length - (RowKit.intOf v).toNat)
      case atStart => exact ⟨0, rfl, Nat.zero_le _, rfl, rfl⟩
      case round =>
        obtain ⟨k, rfl, hk, rfl, rfl⟩ := hrel
        by_cases hlt : k < l.length
        · obtain ⟨ad, rfl⟩ : ∃ ad, A = some ad := by
            rcases HA.out with h | h
            · subst h; simp at hlt
            · exact h
          have hcell := HC.out ad rfl k hlt
          have hr1 := HR.out l[k] (List.getElem_mem hlt)
          have hts : sumOf (l.take (k + 1)) = sumOf (l.take k) + l[k] := by rw [List.take_succ_eq_append_getElem hlt, sumOf_snoc]
          generalize l[k] = a at *
          have HTS := Aside0.mk hts
          clear hts
          obtain ⟨x, hx⟩ : ∃ x : Nat, loOf (sumOf (l.take k)) = (x : Int) := ⟨(loOf (sumOf (l.take k))).toNat, by have := lo_range (sumOf (l.take k)); omega⟩
          obtain ⟨y, hy⟩ : ∃ y : Nat, a % 18446744073709551616 = (y : Int) := ⟨(a % 18446744073709551616).toNat, by omega⟩
          rw [hx]
          have HX := Aside0.mk hx
          have hw : IntKind.u64.wrap a = (y : Int) := by rw [IntKind.wrap_u64]; exact hy
          have HY := Aside0.mk hy
          clear hx hy
          obtain ⟨s1, hs1⟩ : ∃ s : Nat, (x + y + 0) % 18446744073709551616 = s := ⟨_, rfl⟩
          obtain ⟨c1, hc1⟩ : ∃ s : Nat, (x + y + 0) / 18446744073709551616 = s := ⟨_, rfl⟩
          have hadd : ∀ w, (callFunc 146 #[.int .u64 (x : Int), .int .u64 (y : Int), .int .u64 0]).run Tryz.prog w = .ok (.value (.tuple #[.int .u64 (s1 : Int), .int .u64 (c1 : Int)])) w := fun w => by rw [← hs1, ← hc1]; exact add64_run x y 0 (by omega) w
          have HS1 := Aside0.mk hs1
          have HC1 := Aside0.mk hc1
          have ic1 : (c1 : Int) ≤ 1 := by have := lo_range (sumOf (l.take k)); have := HX.out; have := HY.out; omega
          have ic0 : 0 ≤ (c1 : Int) := by omega
          clear hs1 hc1
          go_wp2
          go_round
          case rel =>
            have hb := sumOf_bound (l.take (k + 1)) (fun z hz => by have := HR.out z (List.mem_of_mem_take hz); omega)
            have hlen : ((l.take (k + 1)).length : Int) ≤ 1099511627776 := by rw [List.length_take]; omega
            have e1 := step_hi (sumOf (l.take k)) a (by omega)
            have e2 := step_lo (sumOf (l.take k)) a
            have ex : (loOf (sumOf (l.take k))).toNat = x := by have := HX.out; omega
            have ey : (loOf a).toNat = y := by have := HY.out; unfold loOf; omega
            rw [ex, ey] at e1 e2
            rw [HC1.out, ← HTS.out] at e1
            rw [HS1.out, ← HTS.out] at e2
            refine ⟨k + 1, by go_num, by omega, ?_, by rw [← e2]⟩
            rw [e1]
            congr 1
            unfold hiOf wrap64
            omega
          case measure => simp [RowKit.intOf]; omega
        · have hk' : k = l.length := by omega
          subst hk'
          rw [List.take_length]
          have hT := HT.out
          have hb := sumOf_bound l (fun z hz => by have := HR.out z hz; omega)
          generalize sumOf l = S at *
          obtain ⟨cc, hcc⟩ : ∃ cc : Int, wrap64 (loOf S) = cc := ⟨_, rfl⟩
          have hcw : IntKind.i64.wrap (loOf S) = cc := by rw [← hcc, IntKind.wrap_i64]; unfold wrap64; omega
          have hcc' : cc = (loOf S + 9223372036854775808) % 18446744073709551616 - 9223372036854775808 := by rw [← hcc]; unfold wrap64; omega
          obtain ⟨lo, hlo⟩ : ∃ x, loOf S = x := ⟨_, rfl⟩
          obtain ⟨hi, hhi⟩ : ∃ x, hiOf S = x := ⟨_, rfl⟩
          have hS : S = hi * 18446744073709551616 + lo := by unfold hiOf loOf at *; omega
          have hl := lo_range S
          rw [hlo] at hcc' hl hcw
          rw [hlo, hhi]
          have HW := Aside0.mk hcw
          have HCC := Aside0.mk hcc
          have HLO := Aside0.mk hlo
          have HHI := Aside0.mk hhi
          have fin : ((hi != cc / 9223372036854775808) = false ∧ (cc == -9223372036854775808) = false ∧ T = cc ∧ U = 0) ∨ ((hi != cc / 9223372036854775808) = true ∧ T = 0 ∧ U = 11) ∨ ((hi != cc / 9223372036854775808) = false ∧ (cc == -9223372036854775808) = true ∧ T = 0 ∧ U = 11) := by
            clear hcw hcc hlo hhi
            by_cases hf : -9223372036854775808 < S ∧ S < 9223372036854775808
            · rw [if_pos hf] at hT
              simp only [Prod.mk.injEq] at hT
              refine .inl ⟨?_, beq_eq_false_iff_ne.2 (by omega), by omega, hT.2⟩
              rw [bne_eq_false_iff_eq]; omega
            · rw [if_neg hf] at hT
              simp only [Prod.mk.injEq] at hT
              by_cases hq : hi = cc / 9223372036854775808
              · exact .inr (.inr ⟨by rw [bne_eq_false_iff_eq]; exact hq, beq_iff_eq.2 (by omega), hT.1, hT.2⟩)
              · exact .inr (.inl ⟨by rw [bne_iff_ne]; exact hq, hT.1, hT.2⟩)
          rw [hlo] at hcc
          clear hcw hlo hhi hcc' hS hl hT hb HW HCC
          subst hcc
          rcases fin with ⟨b1, b2, rfl, rfl⟩ | ⟨b1, rfl, rfl⟩ | ⟨b1, b2, rfl, rfl⟩
          all_goals go_wp2
          all_goals go_ret2
          all_goals exact ⟨rfl, rfl⟩
set_option maxHeartbeats 2000000 in
set_option maxRecDepth 100000 in
/-- Some number is none. -/
theorem Sum_none (A : Option Addr) (c : Nat) (l : List Int) (w : World) (hc : ∀ ad, A = some ad → ∀ k, (h : k < l.length) → w.cell? (ad.add k) = some (.int .i64 l[k])) (hA : l = [] ∨ ∃ ad, A = some ad)
    (hlen : l.length ≤ 1099511627776) (hr : ¬ ∀ a ∈ l, a ≠ -9223372036854775808) :
    Calls Tryz.prog 97 #[.slice A l.length c] w fun e w' => e = .returned (.tuple #[.int .i64 0, .int .i64 10]) ∧ w = w' := by
  have HC := Aside0.mk hc
  have HA := Aside0.mk hA
  have HR := Aside0.mk hr
  have HL := Aside0.mk hlen
  clear hc hA hr hlen
  go_enter Tryz.func97, Tryz.ntmps97
  go_wp2
  go_loop [14] (fun v => ∃ k : Nat, v = .int .i64 k ∧ k ≤ l.length ∧ Aside0 (∀ a ∈ l.take k, a ≠ -9223372036854775808)) (fun v => l.length - (RowKit.intOf v).toNat)
  case atStart => exact ⟨0, rfl, Nat.zero_le _, ⟨by simp⟩⟩
  case round =>
    obtain ⟨k, rfl, hk, HK⟩ := hrel
    have i0 : (l.length : Int) ≤ 1099511627776 := by have := HL.out; omega
    by_cases hlt : k < l.length
    · obtain ⟨ad, rfl⟩ : ∃ ad, A = some ad := by
        rcases HA.out with h | h
        · subst h; simp at hlt
        · exact h
      have hcell := HC.out ad rfl k hlt
      have hts : l.take (k + 1) = l.take k ++ [l[k]] := List.take_succ_eq_append_getElem hlt
      have HTS := Aside0.mk hts
      clear hts
      generalize l[k] = a at *
      by_cases hn : a = -9223372036854775808
      · subst hn
        go_wp2
        go_ret2
        exact ⟨rfl, rfl⟩
      · have ne : (a == -9223372036854775808) = false := beq_eq_false_iff_ne.2 hn
        have HN := Aside0.mk hn
        clear hn
        go_wp2
        go_round
        case rel =>
          refine ⟨k + 1, by go_num, by omega, ⟨fun z hz => ?_⟩⟩
          rw [HTS.out, List.mem_append, List.mem_singleton] at hz
          rcases hz with hz | rfl
          · exact HK.out z hz
          · exact HN.out
        case measure => simp [RowKit.intOf]; omega
    · have hk' : k = l.length := by omega
      subst hk'
      exact absurd (by simpa using HK.out) HR.out
def sumSpec (l : List Int) : Int × Int := if l.all (· ≠ -9223372036854775808) then (if -9223372036854775808 < sumOf l ∧ sumOf l < 9223372036854775808 then (sumOf l, 0) else (0, 11)) else (0, 10)
def L_Sum.f (l0 : List Int) : Option (Int × Int) := if l0.length ≤ 1099511627776 ∧ (l0.all fun a => decide (-9223372036854775808 ≤ a ∧ a < 9223372036854775808)) = true then some (sumSpec l0) else none
theorem reads_ints {w : World} {k : IntKind} {A : Option Addr} {l : List Int} (h : Kd.C (Kd.int k) w A l.length l) :
    (∀ ad, A = some ad → ∀ j, (h : j < l.length) → w.cell? (ad.add j) = some (.int k l[j])) ∧ (l = [] ∨ ∃ ad, A = some ad) := by
  refine ⟨fun ad e j hj => ?_, ?_⟩
  · obtain ⟨ad', e', hc⟩ := Kd.at_int h (j : Int) (by omega) (by omega)
    rw [e] at e'
    obtain rfl := Option.some.inj e'
    rw [Int.toNat_natCast] at hc
    rw [hc]
    simp [rd, List.getD_eq_getElem?_getD, List.getElem?_eq_getElem hj]
  · cases l with
    | nil => exact .inl rfl
    | cons x l => obtain ⟨ad, e, _⟩ := Kd.at_int h 0 (by omega) (by simp); exact .inr ⟨ad, e⟩
theorem L_Sum.calls (A0 : Option Addr) (c0 : Nat) (l0 : List Int) (r1 : Int) (r2 : Int) (w : World) (hr0 : Kd.C (Kd.int .i64) w A0 l0.length l0) (hc0 : l0.length ≤ c0) (h : L_Sum.f l0 = some (r1, r2)) :
    Calls Tryz.prog 97 #[.slice A0 l0.length c0] w fun e w' => e = .returned (.tuple #[.int .i64 r1, .int .i64 r2]) ∧ Drawn0 w w' := by
  unfold L_Sum.f at h
  split at h
  · rename_i hh
    obtain ⟨h1, h2⟩ := hh
    rw [List.all_eq_true] at h2
    have h2' : ∀ a ∈ l0, -9223372036854775808 ≤ a ∧ a < 9223372036854775808 := fun a ha => by simpa using h2 a ha
    have h := Option.some.inj h
    unfold sumSpec at h
    obtain ⟨hc, hA⟩ := reads_ints hr0
    by_cases hn : ∀ a ∈ l0, a ≠ -9223372036854775808
    · rw [if_pos (by rw [List.all_eq_true]; exact fun a ha => by simpa using hn a ha)] at h
      refine (Sum_walk A0 c0 l0 w hc hA h1 (fun a ha => by have := h2' a ha; have := hn a ha; omega) r1 r2 h.symm).mono ?_
      rintro e w' ⟨rfl, rfl⟩
      exact ⟨rfl, Drawn0.refl _⟩
    · rw [if_neg (by rw [List.all_eq_true]; exact fun hh => hn fun a ha => by simpa using hh a ha)] at h
      simp only [Prod.mk.injEq] at h
      obtain ⟨rfl, rfl⟩ := h
      refine (Sum_none A0 c0 l0 w hc hA h1 hn).mono ?_
      rintro e w' ⟨rfl, rfl⟩
      exact ⟨rfl, Drawn0.refl _⟩
  · exact absurd h (by simp)
end Go.Proofs.YtmimninicegjcaaGreatDoor


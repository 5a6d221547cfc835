/- chart.Good and money.Sum, in the form that the printed texts take. -/
import Derived.Outline
import Derived.Test.YtmimninicegjcaaGreatDoorTbLeafA
import Derived.Test.YtmimninicegjcaaGreatDoorTbQT2
namespace Go.Proofs.YtmimninicegjcaaGreatDoor
open Go.RowKit Go.Shelf Go.Lib Go.Proofs.YtmimninicegjcaaGreatDoorW.PrintWords Go.Proofs.YtmimninicegjcaaGreatDoorW.PrintLast
set_option linter.unusedVariables false
set_option linter.unusedSimpArgs false

/-! ### chart.part, as a plain function -/
def okByte (c : Int) : Bool := decide (65 ≤ c ∧ c ≤ 90) || decide (97 ≤ c ∧ c ≤ 122) || decide (48 ≤ c ∧ c ≤ 57) || decide (c = 45)
def partOk (s : ByteArray) : Bool := decide (1 ≤ s.size ∧ s.size ≤ 16) && decide (65 ≤ bt s 0 ∧ bt s 0 ≤ 90) && (List.range s.size).all fun i => okByte (bt s i)
theorem okByte_cases (c : Int) (A B : Option Bool) :
    (if c ≥ 65 then (if c ≤ 90 then A else (if c ≥ 97 then (if c ≤ 122 then A else (if c ≥ 48 then (if c ≤ 57 then A else (if c = 45 then A else B)) else (if c = 45 then A else B))) else (if c ≥ 48 then (if c ≤ 57 then A else (if c = 45 then A else B)) else (if c = 45 then A else B)))) else (if c ≥ 97 then (if c ≤ 122 then A else (if c ≥ 48 then (if c ≤ 57 then A else (if c = 45 then A else B)) else (if c = 45 then A else B))) else (if c ≥ 48 then (if c ≤ 57 then A else (if c = 45 then A else B)) else (if c = 45 then A else B)))) = if okByte c = true then A else B := by
  unfold okByte
  by_cases h1 : c ≥ 65 <;> by_cases h2 : c ≤ 90 <;> by_cases h3 : c ≥ 97 <;> by_cases h4 : c ≤ 122 <;> by_cases h5 : c ≥ 48 <;> by_cases h6 : c ≤ 57 <;> by_cases h7 : c = 45 <;> simp [h1, h2, h3, h4, h5, h6, h7] <;> omega
theorem part_loop (s : ByteArray) (hs : s.size ≤ 16) (d : Nat) : ∀ (i k : Nat), i + d = s.size → d < k →
    QT.chart_part.l0 k s (s.size : Int) i = some ((List.range d).all fun j => okByte (bt s ((i + j : Nat) : Int))) := by
  induction d with
  | zero =>
    intro i k hi hk
    obtain ⟨k, rfl⟩ : ∃ m, k = m + 1 := ⟨k - 1, by omega⟩
    simp only [QT.chart_part.l0]
    rw [if_neg (by omega)]
    simp
  | succ d ih =>
    intro i k hi hk
    obtain ⟨k, rfl⟩ : ∃ m, k = m + 1 := ⟨k - 1, by omega⟩
    simp only [QT.chart_part.l0]
    rw [if_pos (by omega), if_pos (by omega), if_pos (by omega), okByte_cases, show wrap64 ((i : Int) + 1) = ((i + 1 : Nat) : Int) by unfold wrap64; omega, ih (i + 1) k (by omega) (by omega)]
    rw [List.range_succ_eq_map, List.all_cons, List.all_map]
    have e : ∀ j : Nat, i + 1 + j = i + (j + 1) := fun j => by omega
    simp only [Function.comp_def, e, Nat.add_zero]
    by_cases hb : okByte (bt s (i : Int)) = true
    · rw [if_pos hb, hb]; simp
    · rw [if_neg hb]
      rw [Bool.not_eq_true] at hb
      rw [hb]; simp
theorem part_some (s : ByteArray) : QT.chart_part.f 20 s = some (partOk s) := by
  unfold QT.chart_part.f partOk
  by_cases h1 : (s.size : Int) < 1
  · rw [if_pos h1]; simp only [QT.chart_part.j0]; rw [if_pos trivial]; simp; omega
  · rw [if_neg h1]
    by_cases h2 : (s.size : Int) > 16
    · rw [if_pos h2]; simp only [QT.chart_part.j0]; rw [if_pos trivial]; simp; omega
    · rw [if_neg h2, if_pos (by omega)]
      by_cases h3 : bt s 0 < 65
      · rw [if_pos h3]; simp only [QT.chart_part.j0]; rw [if_pos trivial]; simp; omega
      · rw [if_neg h3]; simp only [QT.chart_part.j0]
        by_cases h4 : bt s 0 > 90
        · rw [if_pos (by simpa using h4)]; simp; omega
        · rw [if_neg (by simpa using h4)]
          have hl := part_loop s (by omega) s.size 0 19 (by omega) (by omega)
          rw [show ((0 : Nat) : Int) = 0 from rfl] at hl
          rw [hl]
          have a1 : decide (1 ≤ s.size ∧ s.size ≤ 16) = true := by simp; omega
          have a2 : decide (65 ≤ bt s 0 ∧ bt s 0 ≤ 90) = true := by simp; omega
          rw [a1, a2]
          simp

/-! ### the walks -/
theorem GoodClosure_calls (s : ByteArray) (w : World) :
    Calls Tryz.prog 95 #[.string s] w fun e w' => e = .returned (.bool (!partOk s)) ∧ Drawn0 w w' := by
  go_enter Tryz.func95, Tryz.ntmps95
  go_wp2_with (go_at_call 96; refine (QT.chart_part.calls 20 s _ _ (part_some s)).mono ?_; rintro e w1 ⟨rfl, nd, rfl⟩)
  go_ret
  exact ⟨rfl, Drawn0.step (Drawn0.refl _) _⟩
/-- The place of the first that is bad; -1: there is none. -/
def firstBad : List ByteArray → Nat → Int
  | [], _ => -1
  | s :: l, i => if partOk s = true then firstBad l (i + 1) else i
theorem IndexFunc_calls (b : Nat) (ss : List ByteArray) (hl : ss.length ≤ 1000) (w : World) (hc : ∀ j, (h : j < ss.length) → w.cell? ⟨b, j, none⟩ = some (.string ss[j])) :
    Calls Tryz.prog 145 #[.slice (some ⟨b, 0, none⟩) ss.length ss.length, .func (.func 95) #[] #[]] w fun e w' =>
      e = .returned (.int .i64 (firstBad ss 0)) ∧ Drawn0 w w' := by
  have HC := Aside0.mk hc
  clear hc
  go_enter Tryz.func145, Tryz.ntmps145
  go_wp2
  go_loopw [8] (fun v wr => ∃ k : Nat, v = .int .i64 k ∧ k ≤ ss.length ∧ firstBad ss 0 = firstBad (ss.drop k) k ∧ Drawn0 w wr) (fun v _ => ss.length - (RowKit.intOf v).toNat)
  case atStart => exact ⟨0, rfl, Nat.zero_le _, by simp, Drawn0.refl _⟩
  case round =>
    obtain ⟨k, rfl, hk, hf, ⟨m, rfl⟩⟩ := hrel
    have HF := Aside0.mk hf
    clear hf
    by_cases hlt : k < ss.length
    · have hcell := HC.out k hlt
      have i1 : (k : Int) < (ss.length : Int) := by omega
      have hd : ss.drop k = ss[k] :: ss.drop (k + 1) := List.drop_eq_getElem_cons hlt
      have HD := Aside0.mk hd
      clear hd
      generalize hs : ss[k] = s at *
      have HS := Aside0.mk hs
      clear hs
      by_cases hp : partOk s = true
      · have HP := Aside0.mk hp
        clear hp
        go_wp2_with (refine (GoodClosure_calls _ _).mono ?_; rintro e w1 ⟨rfl, nd, rfl⟩; rw [HP.out])
        go_roundw
        case rel => exact ⟨k + 1, by go_num, hlt, by rw [HF.out, HD.out, firstBad, if_pos HP.out], Drawn0.step (Drawn0.refl _) _⟩
        case measure => simp [RowKit.intOf]; omega
      · have HP := Aside0.mk (Bool.not_eq_true _ ▸ hp : partOk s = false)
        clear hp
        go_wp2_with (refine (GoodClosure_calls _ _).mono ?_; rintro e w1 ⟨rfl, nd, rfl⟩; rw [HP.out])
        go_ret
        exact ⟨by rw [HF.out, HD.out, firstBad, HP.out]; rfl, Drawn0.step (Drawn0.refl _) _⟩
    · have hk' : k = ss.length := by omega
      subst hk'
      go_wp2
      go_ret
      exact ⟨by rw [HF.out, List.drop_length]; rfl, Drawn0.step (Drawn0.refl _) _⟩
theorem ContainsFunc_calls (b : Nat) (ss : List ByteArray) (hl : ss.length ≤ 1000) (w : World) (hc : ∀ j, (h : j < ss.length) → w.cell? ⟨b, j, none⟩ = some (.string ss[j])) :
    Calls Tryz.prog 94 #[.slice (some ⟨b, 0, none⟩) ss.length ss.length, .func (.func 95) #[] #[]] w fun e w' =>
      e = .returned (.bool (decide (0 ≤ firstBad ss 0))) ∧ Drawn0 w w' := by
  have HC := Aside0.mk hc
  clear hc
  go_enter Tryz.func94, Tryz.ntmps94
  go_wp2_with (refine (IndexFunc_calls b ss hl _ HC.out).mono ?_; rintro e w1 ⟨rfl, nd, rfl⟩)
  go_ret
  exact ⟨rfl, Drawn0.step (Drawn0.refl _) _⟩
theorem firstBad_all (ss : List ByteArray) : ∀ i : Nat, decide (0 ≤ firstBad ss i) = !(ss.all partOk) := by
  induction ss with
  | nil => intro i; simp [firstBad]
  | cons s l ih =>
    intro i
    unfold firstBad
    by_cases hp : partOk s = true
    · rw [if_pos hp, ih]; simp [hp]
    · rw [if_neg hp]; simp [hp]

def colon : ByteArray := ⟨#[58]⟩
def partsOf (s : ByteArray) : List ByteArray := Lib.splitB colon 0 (Lib.countB s colon) s
/-- Can an account have the name? -/
def goodName (s : ByteArray) : Bool := decide (s.size ≤ 102) && (decide ((partsOf s).length ≤ 6) && (partsOf s).all partOk)
theorem partsOf_length (s : ByteArray) : (partsOf s).length = Lib.countB s colon + 1 := Lib.splitB_all colon (by decide) 0 _ s rfl
theorem partsOf_le (s : ByteArray) : (partsOf s).length ≤ s.size + 1 := by
  rw [partsOf_length]
  have := Lib.countB_le colon (by decide) s.size s (Nat.le_refl _)
  omega
set_option maxHeartbeats 1000000 in
theorem Good_long (s : ByteArray) (h : 102 < s.size) (w : World) :
    Calls Tryz.prog 38 #[.string s] w fun e w' => e = .returned (.bool false) ∧ w = w' := by
  have h1 : (102 : Int) < (s.size : Int) := by omega
  go_enter Tryz.func38, Tryz.ntmps38
  go_wp2_with fail
  go_ret
  exact ⟨rfl, rfl⟩
set_option maxHeartbeats 1000000 in
theorem Good_short (s : ByteArray) (h : s.size ≤ 102) (w : World) (hL : Laid w) :
    Calls Tryz.prog 38 #[.string s] w fun e w' => e = .returned (.bool (decide ((partsOf s).length ≤ 6) && (partsOf s).all partOk)) ∧ Below w.heap.size w w' := by
  have h1 : (s.size : Int) ≤ 102 := by omega
  obtain ⟨m, hm⟩ := hL.maxLen
  have hS := Tryz.strings_Split s colon m w (by omega) hm (by decide)
  rw [← partsOf_length] at hS
  have hle := partsOf_le s
  have hps : Lib.splitB colon 0 (Lib.countB s colon) s = partsOf s := rfl
  rw [hps] at hS
  generalize hpp : partsOf s = ss at *
  have hss : ss.length ≤ 1000 := by omega
  clear hps hpp hle
  have HS := Aside0.mk hS
  clear hS hm hL h
  have hcell : ∀ (m : Nat) (j : Nat) (h : j < ss.length), (w.alloc (.cells (ss.map Value.string).toArray 9)).cell? ⟨w.heap.size, j, none⟩ = some (.string ss[j]) := fun _ j h => by
    rw [World.cell?_alloc_new]
    simp [List.getElem?_eq_getElem h]
  have HCL := Aside0.mk hcell
  clear hcell
  by_cases h6 : ss.length ≤ 6
  · have i6 : decide ((ss.length : Int) ≤ 6) = true := decide_eq_true (by omega)
    have d6 : decide (ss.length ≤ 6) = true := decide_eq_true h6
    have D6 := Aside0.mk d6
    have HSS := Aside0.mk hss
    clear d6 h6 hss
    go_enter Tryz.func38, Tryz.ntmps38
    go_wp2_with fail
    refine HS.out.mono ?_
    rintro e w1 ⟨rfl, rfl⟩
    go_wp2_with fail
    refine (ContainsFunc_calls _ ss HSS.out _ (HCL.out 0)).mono ?_
    rintro e w1 ⟨rfl, nd, rfl⟩
    rw [firstBad_all]
    go_wp2_with fail
    go_ret
    exact ⟨by rw [D6.out]; simp, by repeat (first | exact Below.refl _ _ | apply pw_below_drewN | apply below_alloc)⟩
  · have i6 : decide ((ss.length : Int) ≤ 6) = false := decide_eq_false (by omega)
    have d6 : decide (ss.length ≤ 6) = false := decide_eq_false h6
    have D6 := Aside0.mk d6
    clear d6 h6 hss
    go_enter Tryz.func38, Tryz.ntmps38
    go_wp2_with fail
    refine HS.out.mono ?_
    rintro e w1 ⟨rfl, rfl⟩
    go_wp2_with fail
    go_ret
    exact ⟨by rw [D6.out]; rfl, by repeat (first | exact Below.refl _ _ | apply pw_below_drewN | apply below_alloc)⟩
def L_Good.f (a0 : ByteArray) : Option Bool := some (goodName a0)
theorem L_Good.calls (a0 : ByteArray) (r : Bool) (w : World) (hL : Laid w) (h : L_Good.f a0 = some r) :
    Calls Tryz.prog 38 #[.string a0] w fun e w' => e = .returned (.bool r) ∧ Below w.heap.size w w' := by
  obtain rfl := Option.some.inj h
  unfold goodName
  by_cases hs : a0.size ≤ 102
  · refine (Good_short a0 hs w hL).mono ?_
    rintro e w' ⟨rfl, hb⟩
    exact ⟨by rw [decide_eq_true hs]; rfl, hb⟩
  · refine (Good_long a0 (by omega) w).mono ?_
    rintro e w' ⟨rfl, rfl⟩
    exact ⟨by rw [decide_eq_false hs]; rfl, Below.refl _ _⟩
end Go.Proofs.YtmimninicegjcaaGreatDoor


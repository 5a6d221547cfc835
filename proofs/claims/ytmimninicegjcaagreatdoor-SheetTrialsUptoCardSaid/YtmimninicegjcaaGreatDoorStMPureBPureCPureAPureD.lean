/- Part of the proof of RowTrials: PureB, PureC, PureA, PureD. -/
import Derived.Test.YtmimninicegjcaaGreatDoorStHandTrial
import Derived.Test.YtmimninicegjcaaGreatDoorStLeafB
import Derived.Test.YtmimninicegjcaaGreatDoorStLeafD
import Derived.Test.YtmimninicegjcaaGreatDoorStQT3
import Derived.Test.YtmimninicegjcaaGreatDoorStQT4
import Derived.Test.YtmimninicegjcaaGreatDoorStQT5
/- Plain laws: the document's amounts are money.Print's. -/
namespace Go.Proofs.YtmimninicegjcaaGreatDoor
open Go.RowKit Go.Shelf Go.Lib Go.Proofs.YtmimninicegjcaaGreatDoorW.PrintWords Go.Proofs.YtmimninicegjcaaGreatDoorW.PrintLast
set_option linter.unusedVariables false
set_option linter.unusedSimpArgs false
def dig (v : Nat) : UInt8 := UInt8.ofNat (48 + v % 10)
/-- v's digits, at least m. -/
def digs (v m : Nat) : List UInt8 := if h : v = 0 then List.replicate m 48 else digs (v / 10) (m - 1) ++ [dig v]
termination_by v
decreasing_by omega
theorem digs_zero (m : Nat) : digs 0 m = List.replicate m 48 := by rw [digs, dif_pos rfl]
theorem digs_pos {v : Nat} (h : v ≠ 0) (m : Nat) : digs v m = digs (v / 10) (m - 1) ++ [dig v] := by rw [digs, dif_neg h]
theorem digs_succ (v m : Nat) : digs v (m + 1) = digs (v / 10) m ++ [dig v] := by
  by_cases h : v = 0
  · subst h
    rw [digs_zero, show 0 / 10 = 0 from rfl, digs_zero, List.replicate_succ']
    rfl
  · rw [digs_pos h]
    rfl
theorem digs_one (v : Nat) : digs v 1 = Lib.decDigits v := by
  induction v using Nat.strongRecOn with
  | _ v ih =>
    rw [digs_succ]
    by_cases h : v < 10
    · rw [show v / 10 = 0 by omega, digs_zero, Lib.decDigits, dif_pos h]
      simp only [List.replicate_zero, List.nil_append, dig]
      rw [Nat.mod_eq_of_lt h]
    · rw [Lib.decDigits, dif_neg h, ← ih (v / 10) (by omega)]
      congr 1
      rw [digs_pos (show v / 10 ≠ 0 by omega), digs_pos (show v / 10 ≠ 0 by omega)]
theorem digs_length (v : Nat) : ∀ m, (digs v m).length = max m (if v = 0 then 0 else Lib.nDigits v) := by
  induction v using Nat.strongRecOn with
  | _ v ih =>
    intro m
    by_cases h : v = 0
    · subst h; rw [digs_zero]; simp
    · rw [digs_pos h, List.length_append, List.length_singleton, ih (v / 10) (by omega), if_neg h]
      by_cases h10 : v < 10
      · rw [if_pos (by omega), Lib.nDigits_small h10]; omega
      · rw [if_neg (by omega), Lib.nDigits_big h10]; omega
theorem digs_pad (v m : Nat) : digs v (m + 1) = List.replicate (m + 1 - Lib.nDigits v) 48 ++ Lib.decDigits v := by
  induction m generalizing v with
  | zero =>
    have := Lib.nDigits_pos v
    rw [digs_one, show 0 + 1 - Lib.nDigits v = 0 by omega]
    rfl
  | succ m ih =>
    rw [digs_succ, ih (v / 10)]
    by_cases h : v < 10
    · have h0 : v / 10 = 0 := by omega
      rw [h0, Lib.nDigits_small h, Lib.nDigits_small (by omega : (0 : Nat) < 10), Lib.decDigits_one h, Lib.decDigits_one (by omega : (0 : Nat) < 10)]
      rw [show m + 1 + 1 - 1 = (m + 1 - 1) + 1 by omega, List.replicate_succ']
      simp only [List.append_assoc, dig]
      rw [Nat.mod_eq_of_lt h]
      rfl
    · rw [Lib.nDigits_big h, show m + 1 + 1 - (Lib.nDigits (v / 10) + 1) = m + 1 - Lib.nDigits (v / 10) by omega, List.append_assoc]
      congr 1
      conv => rhs; rw [Lib.decDigits, dif_neg h]
      rfl
/-- The last d digits. -/
def low (a : Nat) : Nat → List UInt8
  | 0 => []
  | d + 1 => low (a / 10) d ++ [dig a]
theorem low_length (d : Nat) : ∀ a, (low a d).length = d := by
  induction d with
  | zero => exact fun a => rfl
  | succ d ih => intro a; rw [low, List.length_append, ih]; rfl
theorem digs_low (d : Nat) : ∀ a m, digs a (m + d) = digs (a / 10 ^ d) m ++ low a d := by
  induction d with
  | zero => intro a m; simp [low]
  | succ d ih =>
    intro a m
    rw [← Nat.add_assoc, digs_succ, ih, low, Nat.div_div_eq_div_mul, ← Nat.pow_succ', List.append_assoc]
theorem digs_mod (d : Nat) : ∀ a, digs (a % 10 ^ d) d = low a d := by
  induction d with
  | zero => intro a; rw [Nat.pow_zero, Nat.mod_one, digs_zero]; rfl
  | succ d ih =>
    intro a
    have h1 : a % 10 ^ (d + 1) / 10 = (a / 10) % 10 ^ d := by rw [Nat.pow_succ', Nat.mod_mul_right_div_self]
    have h2 : dig (a % 10 ^ (d + 1)) = dig a := by
      unfold dig
      rw [Nat.pow_succ', Nat.mod_mul_right_mod]
    rw [digs_succ, h1, h2, ih, low]
theorem money_text (a d : Nat) : (moneyText (a : Int) d).data.toList = if 0 < d then digs (a / 10 ^ d) 1 ++ [46] ++ low a d else digs a 1 := by
  have hp : (padded ⟨(Lib.decDigits a).toArray⟩ d).data.toList = digs a (d + 1) := by
    rw [digs_pad]
    unfold padded
    have hs : (⟨(Lib.decDigits a).toArray⟩ : ByteArray).size = Lib.nDigits a := by rw [mk_size, List.size_toArray, Lib.decDigits_length]
    rw [hs]
    split
    · rename_i h
      rw [ByteArray.data_append]
      simp only [Array.toList_append]
      have : (zerosB (d + 1 - Lib.nDigits a)).data.toList = List.replicate (d + 1 - Lib.nDigits a) 48 := by
        have := Lib.repeatL_replicate 48 1 (d + 1 - Lib.nDigits a)
        simpa [zerosB] using this
      rw [this]
    · rename_i h
      rw [show d + 1 - Lib.nDigits a = 0 by omega]
      simp
  unfold moneyText
  simp only
  rw [if_neg (by omega), Int.natAbs_natCast]
  generalize padded ⟨(Lib.decDigits a).toArray⟩ d = x at *
  unfold pointed
  have hsz : x.size = (digs a (d + 1)).length := by rw [← hp]; simp
  have hl := digs_low d a 1
  rw [Nat.add_comm] at hl
  by_cases hd : 0 < d
  · rw [if_pos hd, if_pos hd]
    have hlen : x.size - d = (digs (a / 10 ^ d) 1).length := by rw [hsz, hl, List.length_append, low_length]; omega
    have e1 : (x.extract 0 (x.size - d)).data.toList = digs (a / 10 ^ d) 1 := by
      rw [ByteArray.data_extract, Array.toList_extract, hp, hlen, hl]
      simp
    have e2 : (x.extract (x.size - d) x.size).data.toList = low a d := by
      rw [ByteArray.data_extract, Array.toList_extract, hp, hlen, hsz, hl]
      simp
    rw [ByteArray.data_append, ByteArray.data_append]
    simp only [Array.toList_append, e1, e2]
  · have : d = 0 := by omega
    subst this
    rw [if_neg hd, if_neg hd, hp]
end Go.Proofs.YtmimninicegjcaaGreatDoor
/- Plain laws: daybookref17.money is moneyText from 0 on. -/
namespace Go.Proofs.YtmimninicegjcaaGreatDoor
open Go.RowKit Go.Shelf Go.Lib Go.Proofs.YtmimninicegjcaaGreatDoorW.PrintWords Go.Proofs.YtmimninicegjcaaGreatDoorW.PrintLast
set_option linter.unusedVariables false
set_option linter.unusedSimpArgs false
theorem ba_ext {a b : ByteArray} (h : a.data.toList = b.data.toList) : a = b := by
  obtain ⟨⟨a⟩⟩ := a
  obtain ⟨⟨b⟩⟩ := b
  exact congrArg (fun l => (⟨⟨l⟩⟩ : ByteArray)) h
theorem byte_of (v : Nat) (h : v ≤ 9223372036854775807) : (strOfNums [(wrap64 (48 + (Int.tmod (v : Int) 10))) % 256]).data.toList = [dig v] := by
  have e : (wrap64 (48 + (Int.tmod (v : Int) 10))) % 256 = ((48 + v % 10 : Nat) : Int) := by
    rw [Int.tmod_eq_emod_of_nonneg (by omega)]
    unfold wrap64
    omega
  rw [e]
  unfold strOfNums dig
  simp only [List.map_cons, List.map_nil, Int.toNat_natCast]
theorem digits_loop (least : Nat) : ∀ (k v : Nat) (s : ByteArray), v ≤ 9223372036854775807 → least ≤ 100 → s.size + (digs v (least - s.size)).length ≤ 1000 → (digs v (least - s.size)).length < k →
    ∃ r, QT.daybookref01_Digits.l0 k (v : Int) (least : Int) s = some r ∧ r.data.toList = digs v (least - s.size) ++ s.data.toList := by
  intro k
  induction k with
  | zero => intro v s _ _ _ hk; omega
  | succ k ih =>
    intro v s hv hl hs hk
    have wd : wrap64 (Int.tdiv (v : Int) 10) = ((v / 10 : Nat) : Int) := by
      rw [Int.tdiv_eq_ediv_of_nonneg (by omega)]
      unfold wrap64
      omega
    have hb := byte_of v hv
    simp only [QT.daybookref01_Digits.l0, Option.bind_some]
    generalize hB : strOfNums [(wrap64 (48 + (Int.tmod (v : Int) 10))) % 256] = B at *
    have hB1 : B.size = 1 := by
      have := congrArg List.length hb
      simpa using this
    have hsz : (B ++ s).size = s.size + 1 := by rw [ByteArray.size_append]; omega
    have go : digs v (least - s.size) = digs (v / 10) (least - (s.size + 1)) ++ [dig v] →
        ∃ r, (if B.size + s.size ≤ 9223372036854775807 then QT.daybookref01_Digits.l0 k (wrap64 (Int.tdiv (v : Int) 10)) (least : Int) (B ++ s) else none) = some r ∧ r.data.toList = digs v (least - s.size) ++ s.data.toList := by
      intro he
      rw [he, List.length_append, List.length_singleton] at hs hk
      rw [if_pos (by omega), wd]
      obtain ⟨r, h1, h2⟩ := ih (v / 10) (B ++ s) (by omega) hl (by rw [hsz]; omega) (by rw [hsz]; omega)
      refine ⟨r, h1, ?_⟩
      rw [h2, hsz, he, ByteArray.data_append]
      simp only [Array.toList_append, hb, List.append_assoc]
    by_cases h0 : v = 0
    · rw [if_neg (by omega)]
      by_cases hm : s.size < least
      · rw [if_pos (by omega)]
        refine go ?_
        rw [show least - s.size = (least - (s.size + 1)) + 1 by omega, digs_succ]
      · rw [if_neg (by omega)]
        refine ⟨s, rfl, ?_⟩
        rw [h0, digs_zero, show least - s.size = 0 by omega]
        rfl
    · rw [if_pos (by omega)]
      refine go ?_
      rw [digs_pos h0, show least - s.size - 1 = least - (s.size + 1) by omega]
theorem digits_some (v least : Nat) (hv : v ≤ 9223372036854775807) (hl : least ≤ 100) : ∀ k, 200 ≤ k → ∃ r, QT.daybookref01_Digits.f k (v : Int) (least : Int) = some r ∧ r.data.toList = digs v least := by
  intro k hk
  have hlen : (digs v least).length ≤ 120 := by
    rw [digs_length]
    have := Lib.nDigits_le20 v (by omega)
    split <;> omega
  have e0 : (⟨#[]⟩ : ByteArray).size = 0 := rfl
  obtain ⟨r, h1, h2⟩ := digits_loop least k v ⟨#[]⟩ hv hl (by rw [e0, Nat.sub_zero]; omega) (by rw [e0, Nat.sub_zero]; omega)
  refine ⟨r, h1, ?_⟩
  rw [h2, e0, Nat.sub_zero]
  simp
theorem ten0 : QT.daybookref01_ten.f 10 0 = some 1 := by kernel_rfl
theorem ten1 : QT.daybookref01_ten.f 10 1 = some 10 := by kernel_rfl
theorem ten2 : QT.daybookref01_ten.f 10 2 = some 100 := by kernel_rfl
theorem ten3 : QT.daybookref01_ten.f 10 3 = some 1000 := by kernel_rfl
theorem ten4 : QT.daybookref01_ten.f 10 4 = some 10000 := by kernel_rfl
theorem ten5 : QT.daybookref01_ten.f 10 5 = some 100000 := by kernel_rfl
theorem ten6 : QT.daybookref01_ten.f 10 6 = some 1000000 := by kernel_rfl
theorem ten_some (d : Nat) (hd : d ≤ 6) : ∀ k, 10 ≤ k → QT.daybookref01_ten.f k (d : Int) = some ((10 ^ d : Nat) : Int) := by
  intro k hk
  have h10 : QT.daybookref01_ten.f 10 (d : Int) = some ((10 ^ d : Nat) : Int) := by
    have : d = 0 ∨ d = 1 ∨ d = 2 ∨ d = 3 ∨ d = 4 ∨ d = 5 ∨ d = 6 := by omega
    rcases this with rfl | rfl | rfl | rfl | rfl | rfl | rfl
    · exact ten0
    · exact ten1
    · exact ten2
    · exact ten3
    · exact ten4
    · exact ten5
    · exact ten6
  exact at_rounds (g := fun k => QT.daybookref01_ten.f k (d : Int)) (fun k => QT.daybookref01_ten.mono _ k) hk h10
theorem money_some (a d : Nat) (ha : a ≤ 9223372036854775807) (hd : d ≤ 6) : ∀ k, 300 ≤ k → QT.daybookref17_money.f k (a : Int) (d : Int) = some (moneyText (a : Int) d) := by
  intro k hk
  obtain ⟨k, rfl⟩ : ∃ m, k = m + 2 := ⟨k - 2, by omega⟩
  have hp : 0 < 10 ^ d := Nat.pow_pos (by decide)
  have hp2 : 10 ^ d ≤ 10 ^ 6 := Nat.pow_le_pow_right (by decide) hd
  have hpb : (10 ^ d : Nat) ≤ 1000000 := hp2
  have w1 : wrap64 (Int.tdiv (a : Int) ((10 ^ d : Nat) : Int)) = ((a / 10 ^ d : Nat) : Int) := by
    rw [Int.tdiv_eq_ediv_of_nonneg (by omega), ← Int.natCast_ediv]
    have := Nat.div_le_self a (10 ^ d)
    generalize a / 10 ^ d = q at *
    unfold wrap64
    omega
  have w2 : Int.tmod (a : Int) ((10 ^ d : Nat) : Int) = ((a % 10 ^ d : Nat) : Int) := by
    rw [Int.tmod_eq_emod_of_nonneg (by omega), ← Int.natCast_emod]
  have ht := ten_some d hd k (by omega)
  obtain ⟨r1, h1, h2⟩ := digits_some (a / 10 ^ d) 1 (Nat.le_trans (Nat.div_le_self _ _) ha) (by decide) k (by omega)
  rw [show ((1 : Nat) : Int) = 1 from rfl] at h1
  obtain ⟨r2, h3, h4⟩ := digits_some (a % 10 ^ d) d (Nat.le_trans (Nat.mod_le _ _) ha) (by omega) k (by omega)
  have hl1 : r1.size ≤ 30 := by
    have := congrArg List.length h2
    rw [digs_length] at this
    have h5 := Lib.nDigits_le20 (a / 10 ^ d) (by have := Nat.div_le_self a (10 ^ d); omega)
    have h6 : r1.data.toList.length = r1.size := by simp
    rw [h6] at this
    split at this <;> omega
  have hl2 : r2.size = d := by
    have := congrArg List.length h4
    rw [digs_mod, low_length] at this
    simpa using this
  unfold QT.daybookref17_money.f QT.daybookref01_Print.f
  rw [if_neg (by omega)]
  have hx : decide ((d : Int) > 6) = false := decide_eq_false (by omega)
  rw [hx]
  have e0 : (⟨#[]⟩ : ByteArray).size = 0 := rfl
  have e1 : (⟨#[46]⟩ : ByteArray).size = 1 := rfl
  have hne : ¬ ((10 ^ d : Nat) : Int) = 0 := by omega
  have hm := money_text a d
  simp only [QT.daybookref01_Print.j0, QT.daybookref01_Is.f, Option.bind_some]
  rw [if_neg (by decide), if_pos (by simp; try omega), if_neg (by omega)]
  simp only [QT.daybookref01_Print.j1]
  rw [ht]
  simp only [Option.bind_some]
  rw [if_neg hne, w1, h1]
  simp only [Option.bind_some]
  rw [if_pos (by omega)]
  by_cases hd0 : 0 < d
  · rw [if_pos (by omega), if_pos (by rw [ByteArray.size_append]; omega), if_neg hne, w2, h3]
    simp only [Option.bind_some]
    rw [if_pos (by simp only [ByteArray.size_append]; omega)]
    simp only [Option.bind_some]
    congr 1
    refine ba_ext ?_
    rw [hm, if_pos hd0]
    simp only [ByteArray.data_append, Array.toList_append, h2, h4, digs_mod]
    simp
  · rw [if_neg (by omega)]
    simp only [Option.bind_some]
    congr 1
    refine ba_ext ?_
    have hd00 : d = 0 := by omega
    subst hd00
    rw [hm, if_neg hd0]
    simp only [ByteArray.data_append, Array.toList_append, h2]
    simp
end Go.Proofs.YtmimninicegjcaaGreatDoor
/- Plain laws: the document's names are chart.Good's. -/
namespace Go.Proofs.YtmimninicegjcaaGreatDoor
open Go.RowKit Go.Shelf Go.Lib Go.Proofs.YtmimninicegjcaaGreatDoorW.PrintWords Go.Proofs.YtmimninicegjcaaGreatDoorW.PrintLast
set_option linter.unusedVariables false
set_option linter.unusedSimpArgs false
/-! ### split at the colon -/
def segs : List UInt8 → List (List UInt8)
  | [] => [[]]
  | c :: l => if c = 58 then [] :: segs l else match segs l with | p :: ps => (c :: p) :: ps | [] => [[c]]
theorem segs_ne (l : List UInt8) : ∃ p ps, segs l = p :: ps := by
  cases l with
  | nil => exact ⟨[], [], rfl⟩
  | cons c l =>
    unfold segs
    split
    · exact ⟨_, _, rfl⟩
    · split
      · exact ⟨_, _, rfl⟩
      · exact ⟨_, _, rfl⟩
theorem index_cons_ne (b : UInt8) (l : List UInt8) (h : b ≠ 58) : Lib.index (b :: l) [58] = if Lib.index l [58] == -1 then -1 else Lib.index l [58] + 1 := by
  have hp : ([58] : List UInt8).isPrefixOf (b :: l) = false := by simp [List.isPrefixOf, Ne.symm h]
  rw [Lib.index, hp]
  simp
theorem splitK_segs : ∀ l : List UInt8, Lib.splitK [58] 0 (Lib.count l [58]) l = segs l
  | [] => by rw [Lib.count_miss (by simp [Lib.index])]; rfl
  | c :: l => by
    have ih := splitK_segs l
    by_cases h : c = 58
    · subst h
      have hix : Lib.index (58 :: l) [58] = ((0 : Nat) : Int) := by rw [Lib.index]; simp [List.isPrefixOf]
      rw [Lib.count_cons_eq, Nat.add_comm, Lib.splitK, hix, segs, if_pos rfl, ← ih]
      simp
    · rw [Lib.count_cons_ne c 58 l h, segs, if_neg h]
      by_cases hm : Lib.index l [58] = -1
      · rw [Lib.count_miss hm] at ih ⊢
        rw [← ih]
        rfl
      · have hge := Lib.index_ge l [58]
        obtain ⟨j, hj⟩ : ∃ j : Nat, Lib.index l [58] = j := ⟨(Lib.index l [58]).toNat, by omega⟩
        have hix' : Lib.index (c :: l) [58] = ((j + 1 : Nat) : Int) := by rw [index_cons_ne c l h, if_neg (fun e => hm (beq_iff_eq.1 e)), hj]; omega
        rw [Lib.count_hit (by simp) hj, Nat.add_comm] at ih ⊢
        rw [Lib.splitK, hj] at ih
        rw [Lib.splitK, hix', ← ih]
        have n1 : ¬ ((((j : Nat) : Int)) == -1) = true := fun e => by have := beq_iff_eq.1 e; omega
        have n2 : ¬ ((((j + 1 : Nat) : Int)) == -1) = true := fun e => by have := beq_iff_eq.1 e; omega
        rw [if_neg n1, if_neg n2]
        simp
/-! ### parts -/
def upB (c : UInt8) : Bool := decide (65 ≤ (c.toNat : Int) ∧ (c.toNat : Int) ≤ 90)
def okB (c : UInt8) : Bool := okByte (c.toNat : Int)
def contOk : Nat → List UInt8 → Bool
  | n, [] => decide (0 < n)
  | n, c :: p => (if n = 0 then upB c else okB c) && (decide (n + 1 ≤ 16) && contOk (n + 1) p)
theorem contOk_succ : ∀ (p : List UInt8) (n : Nat), 0 < n → n ≤ 16 → contOk n p = (decide (n + p.length ≤ 16) && p.all okB)
  | [], n, hn, h16 => by simp [contOk, hn, h16]
  | c :: p, n, hn, h16 => by
    rw [contOk, if_neg (by omega), List.all_cons, List.length_cons]
    by_cases h : n + 1 ≤ 16
    · rw [contOk_succ p (n + 1) (by omega) h, decide_eq_true h]
      rw [show n + (p.length + 1) = n + 1 + p.length by omega]
      cases okB c <;> simp
    · rw [decide_eq_false h, decide_eq_false (show ¬ n + (p.length + 1) ≤ 16 by omega)]
      simp
theorem up_ok {c : UInt8} (h : upB c = true) : okB c = true := by
  unfold upB at h
  unfold okB okByte
  simp only [decide_eq_true_eq] at h
  simp [h]
theorem bt_nat (s : ByteArray) (i : Nat) (h : i < s.data.toList.length) : bt s (i : Int) = ((s.data.toList[i]'h).toNat : Int) := by
  have h2 : ((i : Int)).toNat < s.size := by simpa using h
  unfold bt
  rw [dif_pos h2]
  rfl
theorem all_range (s : ByteArray) : ((List.range s.size).all fun i => okByte (bt s i)) = s.data.toList.all okB := by
  rw [Bool.eq_iff_iff, List.all_eq_true, List.all_eq_true]
  constructor
  · intro h c hc
    obtain ⟨i, hi, rfl⟩ := List.mem_iff_getElem.1 hc
    have := h i (List.mem_range.2 (by simpa using hi))
    rw [bt_nat s i hi] at this
    exact this
  · intro h i hi
    have hi2 : i < s.data.toList.length := by simpa using List.mem_range.1 hi
    rw [bt_nat s i hi2]
    exact h _ (List.getElem_mem hi2)
theorem partOk_cont (s : ByteArray) : partOk s = contOk 0 s.data.toList := by
  unfold partOk
  rw [all_range]
  have hsz : s.size = s.data.toList.length := by simp
  have hb := fun h => bt_nat s 0 h
  rw [hsz]
  generalize s.data.toList = l at *
  cases l with
  | nil => simp [contOk]
  | cons c p =>
    have e := hb (by simp)
    rw [show ((0 : Nat) : Int) = 0 from rfl] at e
    rw [e, contOk, if_pos rfl, contOk_succ p 1 (by omega) (by omega), List.all_cons]
    simp only [List.getElem_cons_zero, List.length_cons]
    by_cases hu : upB c = true
    · have hk := up_ok hu
      have hu2 : decide (65 ≤ (c.toNat : Int) ∧ (c.toNat : Int) ≤ 90) = true := hu
      rw [hu, hu2, hk]
      have : decide (1 ≤ p.length + 1 ∧ p.length + 1 ≤ 16) = decide (1 + p.length ≤ 16) := by congr 1; simp; omega
      rw [this]
      simp
    · rw [Bool.not_eq_true] at hu
      have hu2 : decide (65 ≤ (c.toNat : Int) ∧ (c.toNat : Int) ≤ 90) = false := hu
      rw [hu, hu2]
      simp
/-! ### the document's walk over a name -/
def scan : List UInt8 → Nat → Nat → Bool
  | [], parts, n => decide (0 < n) && decide (parts ≤ 6)
  | c :: l, parts, n => if c = 58 then (if n = 0 then false else scan l (parts + 1) 0) else (if n = 0 then upB c else okB c) && (decide (n + 1 ≤ 16) && scan l parts (n + 1))
theorem scan_segs : ∀ (l : List UInt8) (parts n : Nat), n ≤ 16 → ∀ p ps, segs l = p :: ps → scan l parts n = (contOk n p && (ps.all (contOk 0) && decide (parts + ps.length ≤ 6)))
  | [], parts, n, hn, p, ps, h => by
    simp only [segs, List.cons.injEq] at h
    obtain ⟨rfl, rfl⟩ := h
    simp [scan, contOk]
  | c :: l, parts, n, hn, p, ps, h => by
    obtain ⟨q, qs, hq⟩ := segs_ne l
    by_cases hc : c = 58
    · rw [segs, if_pos hc, hq] at h
      simp only [List.cons.injEq] at h
      obtain ⟨rfl, rfl⟩ := h
      rw [scan, if_pos hc]
      by_cases h0 : n = 0
      · rw [if_pos h0, h0]; simp [contOk]
      · rw [if_neg h0, scan_segs l (parts + 1) 0 (by omega) q qs hq, contOk, decide_eq_true (by omega : 0 < n), List.all_cons, List.length_cons]
        rw [show parts + 1 + qs.length = parts + (qs.length + 1) by omega]
        cases contOk 0 q <;> simp
    · rw [segs, if_neg hc, hq] at h
      simp only [List.cons.injEq] at h
      obtain ⟨rfl, rfl⟩ := h
      rw [scan, if_neg hc, contOk]
      by_cases h16 : n + 1 ≤ 16
      · rw [scan_segs l parts (n + 1) h16 q qs hq]
        cases (if n = 0 then upB c else okB c) <;> cases decide (n + 1 ≤ 16) <;> simp
      · rw [decide_eq_false h16]; simp
theorem upper_f (c : Int) : QT.daybookref05_upper.f c = some (decide (65 ≤ c ∧ c ≤ 90)) := by
  unfold QT.daybookref05_upper.f
  split
  · rename_i h; congr 1; simp; omega
  · rename_i h; congr 1; simp; omega
theorem lower_f (c : Int) : QT.daybookref05_lower.f c = some (decide (97 ≤ c ∧ c ≤ 122)) := by
  unfold QT.daybookref05_lower.f
  split
  · rename_i h; congr 1; simp; omega
  · rename_i h; congr 1; simp; omega
theorem digit_f (c : Int) : QT.daybookref05_digit.f c = some (decide (48 ≤ c ∧ c ≤ 57)) := by
  unfold QT.daybookref05_digit.f
  split
  · rename_i h; congr 1; simp; omega
  · rename_i h; congr 1; simp; omega
theorem name_loop (s : ByteArray) (hs : s.size ≤ 1099511627776) (d : Nat) : ∀ (i k parts n : Nat), i + d = s.size → 2 * d < k → parts ≤ i + 1 → n ≤ 16 →
    QT.daybookref05_Name.l0 k s (parts : Int) (n : Int) (i : Int) = some (scan (s.data.toList.drop i) parts n) := by
  induction d with
  | zero =>
    intro i k parts n hi hk hp hn
    obtain ⟨k, rfl⟩ : ∃ m, k = m + 1 := ⟨k - 1, by omega⟩
    simp only [QT.daybookref05_Name.l0]
    rw [if_neg (by omega), List.drop_of_length_le (by simp; omega), scan]
    by_cases h : 0 < n
    · rw [if_pos (by omega), decide_eq_true h]; simp; omega
    · rw [if_neg (by omega), decide_eq_false h]; simp
  | succ d ih =>
    intro i k parts n hi hk hp hn
    obtain ⟨k, rfl⟩ : ∃ m, k = m + 2 := ⟨k - 2, by omega⟩
    have hlt : i < s.data.toList.length := by simp; omega
    simp only [QT.daybookref05_Name.l0]
    rw [if_pos (by omega), if_pos (by omega), upper_f, lower_f, digit_f]
    simp only [Option.bind_some]
    rw [bt_nat s i hlt, List.drop_eq_getElem_cons hlt, scan]
    have ihA := fun q m (hq : q ≤ i + 2) hm => ih (i + 1) (k + 1) q m (by omega) (by omega) hq hm
    have ihB := fun m hm => ih (i + 1) k parts m (by omega) (by omega) (by omega) hm
    have wi : wrap64 ((i : Int) + 1) = ((i + 1 : Nat) : Int) := by unfold wrap64; omega
    have wp : wrap64 ((parts : Int) + 1) = ((parts + 1 : Nat) : Int) := by unfold wrap64; omega
    have wn : wrap64 ((n : Int) + 1) = ((n + 1 : Nat) : Int) := by unfold wrap64; omega
    generalize s.data.toList[i] = c at *
    have hc58 : ((c.toNat : Int) = 58) ↔ c = 58 := by
      rw [← UInt8.toNat_inj]
      simp
      omega
    have step : ∀ b : Bool, QT.daybookref05_Name.j1 (k + 1) s (parts : Int) (n : Int) (i : Int) b = if b = true then some false else some (decide (n + 1 ≤ 16) && scan (s.data.toList.drop (i + 1)) parts (n + 1)) := fun b => by
      simp only [QT.daybookref05_Name.j1]
      by_cases hb : b = true
      · rw [if_pos hb, if_pos hb]
      · rw [if_neg hb, if_neg hb, wn]
        by_cases h16 : n + 1 ≤ 16
        · rw [if_neg (by omega), wi, ihB (n + 1) h16, decide_eq_true h16]; simp
        · rw [if_pos (by omega), decide_eq_false h16]; simp
    by_cases hc : c = 58
    · rw [if_pos (hc58.2 hc), if_pos hc]
      by_cases h0 : n = 0
      · rw [if_pos (by omega), if_pos h0]
      · rw [if_neg (by omega), if_neg h0, wp, wi]
        exact ihA (parts + 1) 0 (by omega) (by omega)
    · rw [if_neg (fun e => hc (hc58.1 e)), if_neg hc]
      simp only [step]
      have eu : decide (65 ≤ (c.toNat : Int) ∧ (c.toNat : Int) ≤ 90) = upB c := rfl
      rw [eu]
      by_cases h0 : n = 0
      · rw [if_pos (by omega), if_pos h0]
        cases upB c <;> simp
      · rw [if_neg (by omega), if_neg h0]
        unfold okB okByte
        rw [eu]
        cases upB c
        · by_cases h1 : 97 ≤ (c.toNat : Int) ∧ (c.toNat : Int) ≤ 122
          · simp [h1]
          · by_cases h2 : 48 ≤ (c.toNat : Int) ∧ (c.toNat : Int) ≤ 57
            · simp [h1, h2]
            · by_cases h3 : (c.toNat : Int) = 45
              · simp [h1, h2, h3]
              · simp [h1, h2, h3]
        · simp
theorem sum_segs : ∀ (l : List UInt8) p ps, segs l = p :: ps → l.length = p.length + ps.length + (ps.map List.length).sum
  | [], p, ps, h => by
    simp only [segs, List.cons.injEq] at h
    obtain ⟨rfl, rfl⟩ := h
    rfl
  | c :: l, p, ps, h => by
    obtain ⟨q, qs, hq⟩ := segs_ne l
    have ih := sum_segs l q qs hq
    rw [segs, hq] at h
    split at h
    · simp only [List.cons.injEq] at h
      obtain ⟨rfl, rfl⟩ := h
      simp only [List.length_cons, List.length_nil, List.map_cons, List.sum_cons]
      omega
    · simp only [List.cons.injEq] at h
      obtain ⟨rfl, rfl⟩ := h
      simp only [List.length_cons]
      omega
theorem contOk_len {p : List UInt8} (h : contOk 0 p = true) : p.length ≤ 16 := by
  cases p with
  | nil => simp
  | cons c p =>
    rw [contOk, contOk_succ p 1 (by omega) (by omega)] at h
    simp only [Bool.and_eq_true, decide_eq_true_eq] at h
    simp only [List.length_cons]
    omega
theorem name_some (s : ByteArray) (hs : s.size ≤ 1099511627776) : QT.daybookref05_Name.f (2 * s.size + 1) s = some (goodName s) := by
  unfold QT.daybookref05_Name.f
  have h := name_loop s hs s.size 0 (2 * s.size + 1) 1 0 (by omega) (by omega) (by omega) (by omega)
  rw [show ((1 : Nat) : Int) = 1 from rfl, show ((0 : Nat) : Int) = 0 from rfl] at h
  rw [h, List.drop_zero]
  obtain ⟨p, ps, hp⟩ := segs_ne s.data.toList
  rw [scan_segs _ 1 0 (by omega) p ps hp]
  have hmap : (partsOf s).map (·.data.toList) = p :: ps := by
    unfold partsOf
    rw [Lib.splitB_data]
    have : Lib.countB s colon = Lib.count s.data.toList [58] := rfl
    rw [this]
    exact (splitK_segs _).trans hp
  have hall : (partsOf s).all partOk = (p :: ps).all (contOk 0) := by
    rw [← hmap, List.all_map]
    congr 1
    funext x
    exact partOk_cont x
  have hlen : (partsOf s).length = ps.length + 1 := by
    have := congrArg List.length hmap
    simpa using this
  unfold goodName
  rw [hall, hlen, List.all_cons]
  by_cases h1 : (contOk 0 p && (ps.all (contOk 0) && decide (1 + ps.length ≤ 6))) = true
  · rw [h1]
    simp only [Bool.and_eq_true, decide_eq_true_eq] at h1
    obtain ⟨ha, hb, hc⟩ := h1
    have hsz : s.size ≤ 102 := by
      have e := sum_segs _ p ps hp
      have hl := contOk_len ha
      have hk : (ps.map List.length).sum ≤ ps.length * 16 := by
        rw [List.all_eq_true] at hb
        have : ∀ m : List (List UInt8), (∀ x ∈ m, contOk 0 x = true) → (m.map List.length).sum ≤ m.length * 16 := by
          intro m
          induction m with
          | nil => simp
          | cons x m ih =>
            intro hm
            have := ih (fun y hy => hm y (by simp [hy]))
            have := contOk_len (hm x (by simp))
            simp only [List.map_cons, List.sum_cons, List.length_cons]
            omega
        exact this ps hb
      have : s.size = s.data.toList.length := by simp
      omega
    rw [decide_eq_true hsz, decide_eq_true (show ps.length + 1 ≤ 6 by omega), ha, hb]
    rfl
  · rw [Bool.not_eq_true] at h1
    rw [h1]
    have : decide (ps.length + 1 ≤ 6) = decide (1 + ps.length ≤ 6) := by congr 1; simp; omega
    rw [this]
    cases hA : contOk 0 p <;> cases hB : ps.all (contOk 0) <;> cases hC : decide (1 + ps.length ≤ 6) <;> simp_all
end Go.Proofs.YtmimninicegjcaaGreatDoor
/- Plain laws: the document's grid is gridText. -/
namespace Go.Proofs.YtmimninicegjcaaGreatDoor
open Go.RowKit Go.Shelf Go.Lib Go.Proofs.YtmimninicegjcaaGreatDoorW.PrintWords Go.Proofs.YtmimninicegjcaaGreatDoorW.PrintLast
set_option linter.unusedVariables false
set_option linter.unusedSimpArgs false
theorem rd_rows (l : List (List ByteArray)) (i : Nat) (h : i < l.length) : QT.rd_L4 l (i : Int) = l[i] := by
  simp [QT.rd_L4, List.getD_eq_getElem?_getD, List.getElem?_eq_getElem h]
theorem rd_strs (l : List ByteArray) (i : Nat) (h : i < l.length) : rdOf ByteArray.empty l (i : Int) = l[i] := by
  simp [rdOf, List.getD_eq_getElem?_getD, List.getElem?_eq_getElem h]
theorem wide_loop (l : List (List ByteArray)) (c : Nat) (hl : l.length ≤ 1099511627776) (d : Nat) : ∀ (i k m : Nat), i + d = l.length → d < k →
    QT.daybookref17_wide.l0 k l (c : Int) (m : Int) (i : Int) = some (((l.drop i).foldl (fun m r => max m (sizeAt r c)) m : Nat) : Int) := by
  induction d with
  | zero =>
    intro i k m hi hk
    obtain ⟨k, rfl⟩ : ∃ m, k = m + 1 := ⟨k - 1, by omega⟩
    simp only [QT.daybookref17_wide.l0]
    rw [if_neg (by omega), List.drop_of_length_le (by omega)]
    rfl
  | succ d ih =>
    intro i k m hi hk
    obtain ⟨k, rfl⟩ : ∃ m, k = m + 1 := ⟨k - 1, by omega⟩
    have hlt : i < l.length := by omega
    simp only [QT.daybookref17_wide.l0]
    rw [if_pos (by omega), if_pos (by omega), rd_rows l i hlt, show wrap64 ((i : Int) + 1) = ((i + 1 : Nat) : Int) by unfold wrap64; omega]
    rw [List.drop_eq_getElem_cons hlt, List.foldl_cons]
    by_cases hc : c < l[i].length
    · rw [if_pos (by omega), if_pos (by omega), rd_strs _ _ hc]
      have e2 : sizeAt l[i] c = (l[i][c]).size := by simp [sizeAt, List.getElem?_eq_getElem hc]
      rw [e2]
      by_cases hm : m < (l[i][c]).size
      · rw [if_pos (by omega), show max m (l[i][c]).size = (l[i][c]).size by omega]
        exact ih (i + 1) k _ (by omega) (by omega)
      · rw [if_neg (by omega), show max m (l[i][c]).size = m by omega]
        exact ih (i + 1) k _ (by omega) (by omega)
    · rw [if_neg (by omega)]
      have e2 : sizeAt l[i] c = 0 := by simp [sizeAt, List.getElem?_eq_none (Nat.not_lt.1 hc)]
      rw [e2, Nat.max_zero]
      exact ih (i + 1) k _ (by omega) (by omega)
theorem wide_some (l : List (List ByteArray)) (c : Nat) (hl : l.length ≤ 1099511627776) (k : Nat) (hk : l.length < k) : QT.daybookref17_wide.f k l (c : Int) = some (wid l c : Int) :=
  wide_loop l c hl l.length 0 k 0 (by omega) hk
theorem blanks_loop (n : Nat) (hn : n ≤ 1099511627776) (d : Nat) : ∀ (i k : Nat) (s : ByteArray), i + d = n → s.size = i → d < k →
    ∃ r, QT.daybookref17_blanks.l0 k (n : Int) s (i : Int) = some r ∧ r.data.toList = s.data.toList ++ List.replicate d 32 := by
  induction d with
  | zero =>
    intro i k s hi hs hk
    obtain ⟨k, rfl⟩ : ∃ m, k = m + 1 := ⟨k - 1, by omega⟩
    simp only [QT.daybookref17_blanks.l0]
    rw [if_neg (by omega)]
    exact ⟨s, rfl, by simp⟩
  | succ d ih =>
    intro i k s hi hs hk
    obtain ⟨k, rfl⟩ : ∃ m, k = m + 1 := ⟨k - 1, by omega⟩
    simp only [QT.daybookref17_blanks.l0]
    rw [if_pos (by omega), if_pos (by omega), show wrap64 ((i : Int) + 1) = ((i + 1 : Nat) : Int) by unfold wrap64; omega]
    have e1 : (⟨#[32]⟩ : ByteArray).size = 1 := rfl
    obtain ⟨r, h1, h2⟩ := ih (i + 1) k (s ++ ⟨#[32]⟩) (by omega) (by rw [ByteArray.size_append]; omega) (by omega)
    refine ⟨r, h1, ?_⟩
    rw [h2, ByteArray.data_append, List.replicate_succ]
    simp
theorem blanks_some (n : Nat) (hn : n ≤ 1099511627776) (k : Nat) (hk : n < k) : ∃ r, QT.daybookref17_blanks.f k (n : Int) = some r ∧ r.data.toList = List.replicate n 32 := by
  obtain ⟨r, h1, h2⟩ := blanks_loop n hn n 0 k ⟨#[]⟩ (by omega) rfl hk
  exact ⟨r, h1, by rw [h2]; simp⟩
theorem len3 (c : Nat) (hc : c < 3) : (c : Int) < (([false, true, true] : List Bool).length : Int) := by
  have : (([false, true, true] : List Bool).length : Int) = 3 := rfl
  omega
theorem right3 (c : Nat) (hc : c < 3) : rdOf false ([false, true, true] : List Bool) (c : Int) = fromOne c := by
  have : c = 0 ∨ c = 1 ∨ c = 2 := by omega
  rcases this with rfl | rfl | rfl <;> rfl
/-! ### the blanks at a line's end -/
theorem trim_drop (l : List UInt8) (x : UInt8) : Lib.trimRightB (l ++ [x]) 32 = if x = 32 then Lib.trimRightB l 32 else l ++ [x] := by
  unfold Lib.trimRightB
  rw [List.reverse_append, List.reverse_singleton, List.singleton_append, List.dropWhile_cons]
  by_cases h : x = 32
  · rw [if_pos (by simp [h]), if_pos h]
  · rw [if_neg (by simp [h]), if_neg h]
    simp
set_option maxHeartbeats 4000000 in
set_option maxRecDepth 100000 in
theorem trim_loop (rows : List (List ByteArray)) (acc : ByteArray) (i : Nat) (hi : i ≤ 1099511627776) (s : ByteArray) (hs : s.size ≤ 1099511627776) (hacc : acc.size ≤ 4611686018427387904) : ∀ (n k : Nat), n ≤ s.size → n < k →
    ∃ k' acc', k - n ≤ k' + 1 ∧ QT.daybookref17_Grid.l2 k rows [false, true, true] acc (i : Int) s (n : Int) = QT.daybookref17_Grid.l0 k' rows [false, true, true] acc' ((i + 1 : Nat) : Int) ∧ acc'.data.toList = acc.data.toList ++ (Lib.trimRightB (s.data.toList.take n) 32 ++ [10]) := by
  have wi : wrap64 ((i : Int) + 1) = ((i + 1 : Nat) : Int) := by unfold wrap64; omega
  have ex : ∀ n : Nat, n ≤ s.size → (s.extract 0 ((n : Int)).toNat).data.toList = s.data.toList.take n := fun n hn => by
    rw [Int.toNat_natCast, ByteArray.data_extract, Array.toList_extract]
    simp
  have exs : ∀ n : Nat, n ≤ s.size → (s.extract 0 ((n : Int)).toNat).size = n := fun n hn => by
    rw [Int.toNat_natCast, ByteArray.size_extract]; omega
  have e1 : (⟨#[10]⟩ : ByteArray).size = 1 := rfl
  intro n
  induction n with
  | zero =>
    intro k hn hk
    obtain ⟨k, rfl⟩ : ∃ m, k = m + 1 := ⟨k - 1, by omega⟩
    simp only [QT.daybookref17_Grid.l2]
    have hx := exs 0 (by omega)
    have hy := ex 0 (by omega)
    rw [if_neg (by omega), if_pos (by omega), if_pos (by omega), if_pos (by omega), if_pos (by rw [ByteArray.size_append]; omega), wi]
    refine ⟨k, _, by omega, rfl, ?_⟩
    rw [ByteArray.data_append, ByteArray.data_append]
    simp only [Array.toList_append, hy, List.append_assoc]
    rfl
  | succ n ih =>
    intro k hn hk
    obtain ⟨k, rfl⟩ : ∃ m, k = m + 1 := ⟨k - 1, by omega⟩
    have hlt : n < s.data.toList.length := by simp; omega
    have wn : wrap64 (((n + 1 : Nat) : Int) - 1) = (n : Int) := by unfold wrap64; omega
    simp only [QT.daybookref17_Grid.l2]
    rw [if_pos (by omega), wn, if_pos (by omega), if_pos (by omega), bt_nat s n hlt, List.take_succ_eq_append_getElem hlt, trim_drop]
    have h32 : ((s.data.toList[n].toNat : Int) = 32) ↔ s.data.toList[n] = 32 := by
      rw [← UInt8.toNat_inj]
      simp
      omega
    by_cases h : s.data.toList[n] = 32
    · rw [if_pos (h32.2 h), if_pos h]
      obtain ⟨k', acc', h1, h2, h3⟩ := ih k (by omega) (by omega)
      exact ⟨k', acc', by omega, h2, h3⟩
    · rw [if_neg (fun e => h (h32.1 e)), if_neg h]
      have hx := exs (n + 1) hn
      have hy := ex (n + 1) hn
      rw [List.take_succ_eq_append_getElem hlt] at hy
      rw [if_pos (by omega), if_pos (by omega), if_pos (by omega), if_pos (by rw [ByteArray.size_append]; omega), wi]
      refine ⟨k, _, by omega, rfl, ?_⟩
      rw [ByteArray.data_append, ByteArray.data_append]
      simp only [Array.toList_append, hy, List.append_assoc]
end Go.Proofs.YtmimninicegjcaaGreatDoor

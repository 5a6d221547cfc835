/- sheet.Trial as a plain function, and its contract. -/
import Derived.Test.YtmimninicegjcaaGreatDoorTbTrialC
namespace Go.Proofs.YtmimninicegjcaaGreatDoor
open Go.RowKit Go.Shelf Go.Lib Go.Proofs.YtmimninicegjcaaGreatDoorW.PrintWords Go.Proofs.YtmimninicegjcaaGreatDoorW.PrintLast Go.Proofs.YtmimninicegjcaaGreatDoorW.PrintMore
set_option linter.unusedVariables false
set_option linter.unusedSimpArgs false
def trialOut (l : List Col) (d : Int) : ByteArray × Int :=
  if after (after (whyOf l (why0 d)) (sumSpec (debits l)).2 11) (sumSpec (credits l)).2 11 = 0 then (⟨(gridText fromOne (trialRows l d.toNat (sumSpec (debits l)).1 (sumSpec (credits l)).1)).toArray⟩, 0)
  else (⟨#[]⟩, after (after (whyOf l (why0 d)) (sumSpec (debits l)).2 11) (sumSpec (credits l)).2 11)
def colOk (c : Col) : Bool := decide (isI64 c.f1) && decide (isI64 c.f2)
def H_Trial.f (l0 : List QT.S31) (a1 : Int) : Option (ByteArray × Int) := if l0.length ≤ 1048576 ∧ l0.all colOk = true then some (trialOut l0 a1) else none
theorem after_zero {y e : Int} (h : after y e 11 = 0) : y = 0 ∧ e = 0 := by
  unfold after first1 at h
  repeat' split at h
  all_goals first | omega | (exact ⟨h, by assumption⟩)
theorem whyCol_zero {y : Int} {c : Col} (h : whyCol y c = 0) : y = 0 ∧ goodName c.f0 = true ∧ 0 ≤ c.f1 ∧ 0 ≤ c.f2 := by
  unfold whyCol first1 at h
  simp only at h
  by_cases hg : goodName c.f0 = true
  · rw [if_pos hg] at h
    repeat' split at h
    all_goals first | omega | exact ⟨by omega, hg, by omega, by omega⟩
  · rw [if_neg hg] at h
    repeat' split at h
    all_goals omega
theorem whyOf_zero : ∀ (l : List Col) (y : Int), whyOf l y = 0 → y = 0 ∧ ∀ c ∈ l, goodName c.f0 = true ∧ 0 ≤ c.f1 ∧ 0 ≤ c.f2
  | [], y, h => ⟨h, by simp⟩
  | c :: l, y, h => by
    have h2 : whyOf l (whyCol y c) = 0 := h
    obtain ⟨h3, h4⟩ := whyOf_zero l _ h2
    obtain ⟨h5, h6⟩ := whyCol_zero h3
    refine ⟨h5, fun x hx => ?_⟩
    rcases List.mem_cons.1 hx with rfl | hx
    · exact h6
    · exact h4 x hx
theorem sumSpec_ok {l : List Int} (h : (sumSpec l).2 = 0) : -9223372036854775808 < (sumSpec l).1 ∧ (sumSpec l).1 < 9223372036854775808 := by
  unfold sumSpec at h ⊢
  split at h
  · split at h
    · rename_i h1 h2
      rw [if_pos h1, if_pos h2]
      exact h2
    · exact absurd h (by decide)
  · exact absurd h (by decide)
theorem goodName_size {s : ByteArray} (h : goodName s = true) : s.size ≤ 102 := by
  unfold goodName at h
  simp only [Bool.and_eq_true, decide_eq_true_eq] at h
  exact h.1
theorem moneyText_size {a : Int} {d : Nat} (ha : isI64 a) (hd : d ≤ 6) : (moneyText a d).size ≤ 60 := by
  have h1 := (decDigits_size a.natAbs (by have := ha.1; have := ha.2; omega)).2
  have h2 : ∀ s : ByteArray, s.size ≤ 20 → (padded s d).size ≤ 27 := fun s hs => by
    unfold padded
    split
    · rw [ByteArray.size_append, zerosB_size]; omega
    · omega
  have h3 : ∀ s : ByteArray, s.size ≤ 27 → (pointed s d).size ≤ 59 := fun s hs => by
    unfold pointed
    split
    · rw [ByteArray.size_append, ByteArray.size_append]
      have e1 := extract_le s 0 (s.size - d)
      have e2 := extract_le s (s.size - d) s.size
      have e3 : (⟨#[46]⟩ : ByteArray).size = 1 := rfl
      omega
    · omega
  have h4 := h3 _ (h2 _ h1)
  unfold moneyText
  simp only
  split
  · rw [ByteArray.size_append]
    have e3 : (⟨#[45]⟩ : ByteArray).size = 1 := rfl
    omega
  · omega
theorem wid_le {rows : List (List ByteArray)} {B : Nat} (h : ∀ r ∈ rows, ∀ x ∈ r, x.size ≤ B) (c : Nat) : wid rows c ≤ B := by
  have key : ∀ (m : List (List ByteArray)) (n : Nat), n ≤ B → (∀ r ∈ m, ∀ x ∈ r, x.size ≤ B) → m.foldl (fun m r => max m (sizeAt r c)) n ≤ B := by
    intro m
    induction m with
    | nil => exact fun n hn _ => hn
    | cons r m ih =>
      intro n hn hm
      rw [List.foldl_cons]
      refine ih _ ?_ (fun r' hr' => hm r' (by simp [hr']))
      have : sizeAt r c ≤ B := by
        unfold sizeAt
        split
        · rename_i x hx
          exact hm r (by simp) x (List.mem_of_getElem? hx)
        · omega
      omega
  exact key rows 0 (Nat.zero_le _) h
theorem trimRightB_length (l : List UInt8) (c : UInt8) : (Lib.trimRightB l c).length ≤ l.length := by
  unfold Lib.trimRightB
  rw [List.length_reverse]
  have := (List.dropWhile_sublist (· == c) (l := l.reverse)).length_le
  rwa [List.length_reverse] at this
theorem gridTo_length {R : Nat → Bool} {rows : List (List ByteArray)} {B M : Nat} (h : ∀ r ∈ rows, ∀ x ∈ r, x.size ≤ B) (hB : B ≤ 4194304) (hm : ∀ r ∈ rows, r.length ≤ M) (k : Nat) : (gridTo R rows k).length ≤ rows.length * (M * 4194306 + 1) := by
  have key : ∀ m : List (List ByteArray), (∀ r ∈ m, r ∈ rows) → ((m.map fun r => lineText R (wid rows) r).flatten).length ≤ m.length * (M * 4194306 + 1) := by
    intro m
    induction m with
    | nil => simp
    | cons r m ih =>
      intro hr
      have h1 := ih (fun x hx => hr x (by simp [hx]))
      have h2 : (lineText R (wid rows) r).length ≤ M * 4194306 + 1 := by
        unfold lineText
        rw [List.length_append, List.length_singleton]
        have h3 := trimRightB_length (lineTo R (wid rows) r r.length) 32
        have h4 := lineTo_length R (wid rows) r (fun c => Nat.le_trans (wid_le h c) hB) (fun c hc => by
          have := sizeAt_le rows r (hr r (by simp)) c
          unfold sizeAt at this
          rwa [List.getElem?_eq_getElem hc] at this) r.length (Nat.le_refl _)
        have h5 : r.length * 4194306 ≤ M * 4194306 := Nat.mul_le_mul_right _ (hm r (hr r (by simp)))
        omega
      rw [List.map_cons, List.flatten_cons, List.length_append, List.length_cons, Nat.add_mul]
      omega
  have h1 := key (rows.take k) (fun r hr => List.mem_of_mem_take hr)
  unfold gridTo
  refine Nat.le_trans h1 (Nat.mul_le_mul_right _ ?_)
  rw [List.length_take]
  omega
theorem trialRows_fits {l : List Col} {d : Nat} {a b : Int} (hn : l.length ≤ 1048576) (hg : ∀ c ∈ l, goodName c.f0 = true ∧ 0 ≤ c.f1 ∧ 0 ≤ c.f2) (hi : ∀ c ∈ l, isI64 c.f1 ∧ isI64 c.f2) (ha : isI64 a) (hb : isI64 b) (hd : d ≤ 6) :
    GridFits fromOne (trialRows l d a b) := by
  have hside : ∀ a, isI64 a → (sideText a d).size ≤ 102 := fun a ha => by
    unfold sideText
    split
    · exact Nat.zero_le _
    · have := moneyText_size ha hd; omega
  have hx : ∀ r ∈ trialRows l d a b, r.length = 3 ∧ ∀ x ∈ r, x.size ≤ 102 := by
    intro r hr
    unfold trialRows at hr
    rw [List.mem_append, List.mem_append, List.mem_singleton, List.mem_singleton, List.mem_map] at hr
    rcases hr with (rfl | ⟨c, hc, rfl⟩) | rfl
    · refine ⟨rfl, fun x hx => ?_⟩
      unfold head3 at hx
      simp only [List.mem_cons, List.not_mem_nil, or_false] at hx
      rcases hx with rfl | rfl | rfl <;> decide
    · refine ⟨rfl, fun x hx => ?_⟩
      unfold trialRow at hx
      simp only [List.mem_cons, List.not_mem_nil, or_false] at hx
      rcases hx with rfl | rfl | rfl
      · exact goodName_size (hg c hc).1
      · exact hside _ (hi c hc).1
      · exact hside _ (hi c hc).2
    · refine ⟨rfl, fun x hx => ?_⟩
      simp only [List.mem_cons, List.not_mem_nil, or_false] at hx
      rcases hx with rfl | rfl | rfl
      · decide
      · have := moneyText_size ha hd; omega
      · have := moneyText_size hb hd; omega
  have hl : (trialRows l d a b).length ≤ 1048578 := by
    unfold trialRows
    simp
    omega
  refine ⟨by omega, fun r hr => by rw [(hx r hr).1]; decide, fun c => Nat.le_trans (wid_le (fun r hr => (hx r hr).2) c) (by decide), fun k => ?_⟩
  refine Nat.le_trans (gridTo_length (M := 3) (fun r hr => (hx r hr).2) (by decide) (fun r hr => by rw [(hx r hr).1]; decide) k) ?_
  omega
theorem mx_i64 {a : Int} (h : isI64 a) : -9223372036854775808 ≤ mx a 0 ∧ mx a 0 < 9223372036854775808 := by
  have := h.1
  have := h.2
  unfold mx
  split <;> omega
theorem L_Sum_some {l : List Int} (hn : l.length ≤ 1048576) (h : ∀ a ∈ l, -9223372036854775808 ≤ a ∧ a < 9223372036854775808) : L_Sum.f l = some ((sumSpec l).1, (sumSpec l).2) := by
  unfold L_Sum.f
  rw [if_pos ⟨by omega, by rw [List.all_eq_true]; exact fun a ha => decide_eq_true (h a ha)⟩]
theorem H_Trial.calls (A0 : Option Addr) (c0 : Nat) (l0 : List QT.S31) (a1 : Int) (r1 : ByteArray) (r2 : Int) (w : World) (hr0 : Kd.C QT.k31 w A0 l0.length l0) (hc0 : l0.length ≤ c0) (hL : Laid w) (h : H_Trial.f l0 a1 = some (r1, r2)) :
    Calls Tryz.prog 10 #[.slice A0 l0.length c0, .int .i64 a1] w fun e w' => e = .returned (.tuple #[.string r1, .int .i64 r2]) ∧ Below w.heap.size w w' := by
  unfold H_Trial.f at h
  split at h
  · rename_i hh
    obtain ⟨hn, hall⟩ := hh
    rw [List.all_eq_true] at hall
    have hi : ∀ c ∈ l0, isI64 c.f1 ∧ isI64 c.f2 := fun c hc => by
      have := hall c hc
      unfold colOk at this
      simpa using this
    have h := Option.some.inj h
    refine Trial_walk A0 c0 l0 a1 w hr0 hc0 hL hn _ _ _ _ _ (L_Sum_some (by simpa [debits] using hn) ?_) (L_Sum_some (by simpa [credits] using hn) ?_) rfl r1 r2 ?_ ?_
    · intro a ha
      unfold debits at ha
      obtain ⟨c, hc, rfl⟩ := List.mem_map.1 ha
      exact mx_i64 (hi c hc).1
    · intro a ha
      unfold credits at ha
      obtain ⟨c, hc, rfl⟩ := List.mem_map.1 ha
      exact mx_i64 (hi c hc).2
    · intro hne
      unfold trialOut at h
      rw [if_neg hne] at h
      simp only [Prod.mk.injEq] at h
      exact ⟨h.1.symm, h.2.symm⟩
    · intro he
      unfold trialOut at h
      rw [if_pos he] at h
      simp only [Prod.mk.injEq] at h
      obtain ⟨he1, heb⟩ := after_zero he
      obtain ⟨he2, hea⟩ := after_zero he1
      obtain ⟨hw, hg⟩ := whyOf_zero l0 _ he2
      have hd : 0 ≤ a1 ∧ a1 ≤ 6 := by
        unfold why0 at hw
        split at hw
        · assumption
        · exact absurd hw (by decide)
      have hsa := sumSpec_ok hea
      have hsb := sumSpec_ok heb
      have hpr : ∀ s : Int, -9223372036854775808 < s ∧ s < 9223372036854775808 → L_Print.f s a1 = some (moneyText s a1.toNat, 0) := fun s hs => by
        unfold L_Print.f
        rw [if_neg (by omega), if_neg (by omega), if_pos (by unfold isI64; omega)]
      refine ⟨hd.1, hd.2, fun c hc => ?_, hpr _ hsa, hpr _ hsb, ?_, h.1.symm, h.2.symm⟩
      · have h1 := hg c hc
        have h2 := hi c hc
        exact ⟨⟨h1.2.1, h2.1.2⟩, h1.2.2, h2.2.2⟩
      · exact trialRows_fits hn hg hi (by unfold isI64; omega) (by unfold isI64; omega) (by omega)
  · exact absurd h (by simp)
end Go.Proofs.YtmimninicegjcaaGreatDoor


/- Part of the proof of RowTrials: PureE, PureF, PureG, PureH, PureI. -/
import Derived.Test.YtmimninicegjcaaGreatDoorStMPureBPureCPureAPureD
import Derived.Test.YtmimninicegjcaaGreatDoorStQT6
/- Plain laws: one line of the document's grid. -/
namespace Go.Proofs.YtmimninicegjcaaGreatDoor
open Go.RowKit Go.Shelf Go.Lib Go.Proofs.YtmimninicegjcaaGreatDoorW.PrintWords Go.Proofs.YtmimninicegjcaaGreatDoorW.PrintLast
set_option linter.unusedVariables false
set_option linter.unusedSimpArgs false
/-! ### one line -/
set_option maxHeartbeats 4000000 in
set_option maxRecDepth 100000 in
theorem line_loop (right : List Bool) (hRt : ∀ c : Nat, c < 3 → (c : Int) < (right.length : Int)) (hRv : ∀ c : Nat, c < 3 → rdOf false right (c : Int) = fromOne c) (rows : List (List ByteArray)) (B M : Nat) (hB2 : (B : Int) ≤ 1099511627776) (hM2 : (M : Int) ≤ 1099511627776) (hN : rows.length < B) (hW : ∀ c, wid rows c < B) (i : Nat) (hi : i < rows.length) (h3 : rows[i].length = 3) (hS : ∀ c, c ≤ 3 → (lineTo fromOne (wid rows) rows[i] c).length ≤ M) (acc : ByteArray) (d : Nat) :
    ∀ (c k kk : Nat) (s : ByteArray), c + d = 3 → B ≤ kk → k = kk + 2 * d + 1 → s.data.toList = lineTo fromOne (wid rows) rows[i] c →
    ∃ s', QT.daybookref17_Grid.l1 k rows right acc (i : Int) s (c : Int) = QT.daybookref17_Grid.l2 kk rows right acc (i : Int) s' (s'.size : Int) ∧ s'.data.toList = lineTo fromOne (wid rows) rows[i] 3 := by
  have hsz : ∀ c, (h : c < rows[i].length) → rows[i][c].size ≤ wid rows c := fun c hc => by
    have := sizeAt_le rows rows[i] (List.getElem_mem hi) c
    unfold sizeAt at this
    rwa [List.getElem?_eq_getElem hc] at this
  induction d with
  | zero =>
    intro c k kk s hc hk hkk hs
    subst hkk
    rw [show kk + 2 * 0 + 1 = kk + 1 from rfl]
    obtain rfl : c = 3 := by omega
    simp only [QT.daybookref17_Grid.l1]
    rw [if_pos (by omega), if_pos (by omega), rd_rows rows i hi, if_neg (by omega)]
    exact ⟨s, by simp, hs⟩
  | succ d ih =>
    intro c k0 kk s hc hk hkk hs
    obtain ⟨k, hkd⟩ : ∃ k, k = kk + 2 * d + 1 := ⟨_, rfl⟩
    obtain rfl : k0 = k + 2 := by omega
    have hc3 : c < 3 := Nat.lt_of_lt_of_eq (Nat.lt_of_lt_of_le (Nat.lt_succ_self c) (Nat.le_add_right (c + 1) d)) (by rw [← hc]; omega)
    have hT := eq_true (hRt c hc3)
    have hr3' := hRv c hc3
    have hcl : c < rows[i].length := Nat.lt_of_lt_of_eq hc3 h3.symm
    have hlen : s.size ≤ M := by
      have h1 := hS c (by omega)
      rw [← hs] at h1
      simpa using h1
    have hx := hsz c hcl
    have hwc := hW c
    have step : ∀ t : ByteArray, t.data.toList = s.data.toList ++ (if 0 < c then [32, 32] else []) →
        ∃ s', QT.daybookref17_Grid.j2 (k + 1) rows right acc (i : Int) t (c : Int) = QT.daybookref17_Grid.l2 kk rows right acc (i : Int) s' (s'.size : Int) ∧ s'.data.toList = lineTo fromOne (wid rows) rows[i] 3 := by
      intro t ht
      have htl : t.size ≤ M + 2 := by
        have := congrArg List.length ht
        rw [List.length_append] at this
        have h1 : t.data.toList.length = t.size := by simp
        have h2 : s.data.toList.length = s.size := by simp
        have h4 : (if 0 < c then [32, 32] else [] : List UInt8).length ≤ 2 := by split <;> simp
        omega
      simp only [QT.daybookref17_Grid.j2]
      rw [if_pos (by omega), if_pos (by omega), rd_rows rows i hi, if_pos (by omega), if_pos (by omega), wide_some rows c (by omega) k (by omega), rd_strs _ _ hcl]
      simp only [Option.bind_some]
      obtain ⟨n, hn⟩ : ∃ n : Nat, wid rows c = rows[i][c].size + n := ⟨wid rows c - rows[i][c].size, by omega⟩
      have hw : wrap64 ((wid rows c : Int) - (rows[i][c].size : Int)) = (n : Int) := by unfold wrap64; omega
      rw [hw]
      obtain ⟨b, hb1, hb2⟩ := blanks_some n (by omega) k (by omega)
      rw [hb1]
      simp only [Option.bind_some]
      have hbs : b.size = n := by
        have := congrArg List.length hb2
        simpa using this
      have wi : wrap64 ((c : Int) + 1) = ((c + 1 : Nat) : Int) := by unfold wrap64; omega
      simp only [hT, if_true, hr3', wi]
      have hsucc := lineTo_succ fromOne (wid rows) rows[i] c hcl
      have hdn : wid rows c - rows[i][c].size = n := by omega
      have fin : ∀ u : ByteArray, u.data.toList = lineTo fromOne (wid rows) rows[i] (c + 1) → ∃ s', QT.daybookref17_Grid.l1 k rows right acc (i : Int) u ((c + 1 : Nat) : Int) = QT.daybookref17_Grid.l2 kk rows right acc (i : Int) s' (s'.size : Int) ∧ s'.data.toList = lineTo fromOne (wid rows) rows[i] 3 := by
        intro u hu
        exact ih (c + 1) k kk u (by omega) hk hkd hu
      by_cases hR : fromOne c = true
      · rw [if_pos hR, if_pos (by omega), if_pos (by rw [ByteArray.size_append]; omega)]
        refine fin _ ?_
        rw [hsucc, piece, if_pos hR, ByteArray.data_append, ByteArray.data_append, hdn]
        simp only [Array.toList_append, ht, hb2, hs, List.append_assoc]
      · rw [if_neg hR, if_pos (by omega), if_pos (by rw [ByteArray.size_append]; omega)]
        refine fin _ ?_
        rw [hsucc, piece, if_neg hR, ByteArray.data_append, ByteArray.data_append, hdn]
        simp only [Array.toList_append, ht, hb2, hs, List.append_assoc]
    simp only [QT.daybookref17_Grid.l1]
    rw [if_pos (by omega), if_pos (by omega), rd_rows rows i hi, if_pos (by omega)]
    by_cases hc0 : 0 < c
    · rw [if_pos (by omega), if_pos (by omega)]
      exact step _ (by rw [ByteArray.data_append, if_pos hc0]; simp)
    · rw [if_neg (by omega)]
      exact step _ (by rw [if_neg hc0]; simp)
end Go.Proofs.YtmimninicegjcaaGreatDoor
/- Plain laws: the document's grid is gridText. -/
namespace Go.Proofs.YtmimninicegjcaaGreatDoor
open Go.RowKit Go.Shelf Go.Lib Go.Proofs.YtmimninicegjcaaGreatDoorW.PrintWords Go.Proofs.YtmimninicegjcaaGreatDoorW.PrintLast
set_option linter.unusedVariables false
set_option linter.unusedSimpArgs false
theorem lens3 (rows : List (List ByteArray)) (hW : ∀ c, wid rows c ≤ 4194304) (i : Nat) (hi : i < rows.length) (h3 : rows[i].length = 3) (c : Nat) (hc : c ≤ 3) : (lineTo fromOne (wid rows) rows[i] c).length ≤ 12582918 := by
  have h1 := lineTo_length fromOne (wid rows) rows[i] hW (fun c hc => by
    have := sizeAt_le rows rows[i] (List.getElem_mem hi) c
    unfold sizeAt at this
    rwa [List.getElem?_eq_getElem hc] at this) c (by omega)
  omega
set_option maxHeartbeats 4000000 in
theorem grid_loop (C : Nat) (hC : (C : Int) = 12583000) (rows : List (List ByteArray)) (hN : rows.length ≤ 1048578) (hW : ∀ c, wid rows c ≤ 4194304) (h3 : ∀ r ∈ rows, r.length = 3) (d : Nat) : ∀ (i k : Nat) (acc : ByteArray), i + d = rows.length → d * C + rows.length + 4194400 < k → acc.size ≤ i * 12582919 →
    ∃ r, QT.daybookref17_Grid.l0 k rows [false, true, true] acc (i : Int) = some r ∧ r.data.toList = acc.data.toList ++ ((rows.drop i).map fun r => lineText fromOne (wid rows) r).flatten := by
  induction d with
  | zero =>
    intro i k acc hi hk ha
    obtain ⟨k, rfl⟩ : ∃ m, k = m + 1 := ⟨k - 1, by omega⟩
    simp only [QT.daybookref17_Grid.l0]
    rw [if_neg (by omega), List.drop_of_length_le (by omega)]
    exact ⟨acc, rfl, by simp⟩
  | succ d ih =>
    intro i k acc hi hk ha
    rw [Nat.succ_mul] at hk
    obtain ⟨k, rfl⟩ : ∃ m, k = m + 1 := ⟨k - 1, by omega⟩
    have hlt : i < rows.length := by omega
    simp only [QT.daybookref17_Grid.l0]
    rw [if_pos (by omega)]
    have hr3 := h3 rows[i] (List.getElem_mem hlt)
    obtain ⟨kk, rfl⟩ : ∃ kk, k = kk + 2 * 3 + 1 := ⟨k - 7, by omega⟩
    obtain ⟨s, hl1, hl2⟩ := line_loop [false, true, true] len3 right3 rows 4194305 12582918 (by decide) (by decide) (by omega) (fun c => by have := hW c; omega) i hlt hr3 (lens3 rows hW i hlt hr3) acc 3 0 (kk + 2 * 3 + 1) kk ⟨#[]⟩ (by omega) (by omega) rfl (by simp [lineTo])
    rw [show ((0 : Nat) : Int) = 0 from rfl] at hl1
    rw [hl1]
    have hss : s.size ≤ 12582918 := by
      have h1 := lens3 rows hW i hlt hr3 3 (Nat.le_refl _)
      rw [← hl2] at h1
      have h2 : s.data.toList.length = s.size := by simp
      omega
    obtain ⟨k', acc', hk1, hk2, hk3⟩ := trim_loop rows acc i (by omega) s (by omega) (by omega) s.size kk (Nat.le_refl _) (by omega)
    rw [hk2]
    have htk : s.data.toList.take s.size = s.data.toList := List.take_of_length_le (by simp)
    rw [htk, hl2] at hk3
    have hline : lineText fromOne (wid rows) rows[i] = Lib.trimRightB (lineTo fromOne (wid rows) rows[i] 3) 32 ++ [10] := by unfold lineText; rw [hr3]
    rw [← hline] at hk3
    have hla : acc'.size ≤ (i + 1) * 12582919 := by
      have h1 := congrArg List.length hk3
      rw [List.length_append, hline, List.length_append, List.length_singleton] at h1
      have h4 := trimRightB_length (lineTo fromOne (wid rows) rows[i] 3) 32
      rw [← hl2] at h4
      have h2 : s.data.toList.length = s.size := by simp
      have h5 : acc'.data.toList.length = acc'.size := by simp
      have h6 : acc.data.toList.length = acc.size := by simp
      rw [← hl2] at h1
      omega
    have hf : d * C + rows.length + 4194400 < k' := by omega
    obtain ⟨r, h1, h2⟩ := ih (i + 1) k' acc' (by omega) hf hla
    refine ⟨r, h1, ?_⟩
    rw [h2, hk3, List.drop_eq_getElem_cons hlt, List.map_cons, List.flatten_cons, List.append_assoc]
theorem grid_some (rows : List (List ByteArray)) (hN : rows.length ≤ 1048578) (hW : ∀ c, wid rows c ≤ 4194304) (h3 : ∀ r ∈ rows, r.length = 3) (k : Nat) (hk : rows.length * 12583000 + rows.length + 4194400 < k) :
    QT.daybookref17_Grid.f k rows [false, true, true] = some ⟨(gridText fromOne rows).toArray⟩ := by
  obtain ⟨r, h1, h2⟩ := grid_loop 12583000 rfl rows hN hW h3 rows.length 0 k ⟨#[]⟩ (by omega) hk (by show 0 ≤ _; omega)
  unfold QT.daybookref17_Grid.f
  rw [show ((0 : Nat) : Int) = 0 from rfl] at h1
  rw [h1]
  congr 1
  refine ba_ext ?_
  rw [h2]
  unfold gridText gridTo
  rw [List.drop_zero, List.take_of_length_le (Nat.le_refl _)]
  simp
end Go.Proofs.YtmimninicegjcaaGreatDoor
/- Plain laws: the document's Trial is trialOut. (under way) -/
namespace Go.Proofs.YtmimninicegjcaaGreatDoor
open Go.RowKit Go.Shelf Go.Lib Go.Proofs.YtmimninicegjcaaGreatDoorW.PrintWords Go.Proofs.YtmimninicegjcaaGreatDoorW.PrintLast
set_option linter.unusedVariables false
set_option linter.unusedSimpArgs false
theorem rd_cols (l : List Col) (i : Nat) (h : i < l.length) : QT.rd_T31 l (i : Int) = l[i] := by
  simp [QT.rd_T31, List.getD_eq_getElem?_getD, List.getElem?_eq_getElem h]
theorem digits_f (d : Int) : QT.daybookref17_digits.f d = some (decide (0 ≤ d ∧ d ≤ 6)) := by
  unfold QT.daybookref17_digits.f
  split
  · rename_i h; congr 1; simp; omega
  · rename_i h; congr 1; simp; omega
theorem name_at (s : ByteArray) (hs : s.size ≤ 1048576) (k : Nat) (hk : 2097200 ≤ k) : QT.daybookref05_Name.f k s = some (goodName s) :=
  at_rounds (g := fun k => QT.daybookref05_Name.f k s) (fun k => QT.daybookref05_Name.mono _ k) (by omega) (name_some s (by omega))
/-- A row's side as the document makes it. -/
theorem side_doc (a : Int) (d : Nat) (h0 : 0 ≤ a) : sideText a d = if a > 0 then moneyText a d else ⟨#[]⟩ := by
  unfold sideText
  by_cases h : a = 0
  · rw [if_pos h, if_neg (by omega)]
  · rw [if_neg h, if_pos (by omega)]
theorem money_at (a : Int) (d : Nat) (h0 : 0 ≤ a) (h1 : a ≤ 9223372036854775807) (hd : d ≤ 6) (k : Nat) (hk : 300 ≤ k) : QT.daybookref17_money.f k a (d : Int) = some (moneyText a d) := by
  obtain ⟨n, rfl⟩ : ∃ n : Nat, a = (n : Int) := ⟨a.toNat, by omega⟩
  exact money_some n d (by omega) hd k hk
theorem j1_step (k : Nat) (hk : 300 ≤ k) (l : List Col) (d : Nat) (hd : d ≤ 6) (x6 x7 : List Int) (x8 : List (List ByteArray)) (i : Nat) (hi : i ≤ 1048576) (c : Col) (h1 : 0 ≤ c.f1 ∧ c.f1 ≤ 9223372036854775807) (h2 : 0 ≤ c.f2 ∧ c.f2 ≤ 9223372036854775807)
    (l6 : x6.length ≤ 1048576) (l7 : x7.length ≤ 1048576) (l8 : x8.length ≤ 1048577) :
    QT.daybookref17_Trial.j1 (k + 1) l (d : Int) x6 x7 x8 (i : Int) false c.f0 c.f1 c.f2 = QT.daybookref17_Trial.l0 k l (d : Int) (x6 ++ [c.f1]) (x7 ++ [c.f2]) (x8 ++ [trialRow d c]) ((i + 1 : Nat) : Int) := by
  have wi : wrap64 ((i : Int) + 1) = ((i + 1 : Nat) : Int) := by unfold wrap64; omega
  simp only [QT.daybookref17_Trial.j1, Option.bind_some]
  rw [if_neg (by decide), if_pos (by omega), if_pos (by omega), money_at c.f1 d h1.1 h1.2 hd k hk, money_at c.f2 d h2.1 h2.2 hd k hk, wi]
  unfold trialRow
  rw [side_doc c.f1 d h1.1, side_doc c.f2 d h2.1]
  by_cases a1 : c.f1 > 0
  · by_cases a2 : c.f2 > 0
    · simp [a1, a2]; omega
    · simp [a1, a2]; omega
  · by_cases a2 : c.f2 > 0
    · simp [a1, a2]; omega
    · simp [a1, a2]; omega
theorem first1_ne {y e : Int} (h : y ≠ 0) : first1 y e = y := by unfold first1; rw [if_neg h]
theorem whyCol_ne {y : Int} (c : Col) (h : y ≠ 0) : whyCol y c = y := by
  unfold whyCol
  simp only [first1_ne h]
  split <;> split <;> first | rfl | exact first1_ne h
theorem whyOf_ne : ∀ (l : List Col) (y : Int), y ≠ 0 → whyOf l y = y
  | [], y, h => rfl
  | c :: l, y, h => by
    show whyOf l (whyCol y c) = y
    rw [whyCol_ne c h]
    exact whyOf_ne l y h
end Go.Proofs.YtmimninicegjcaaGreatDoor
/- Plain laws: the document's Trial is trialOut. -/
namespace Go.Proofs.YtmimninicegjcaaGreatDoor
open Go.RowKit Go.Shelf Go.Lib Go.Proofs.YtmimninicegjcaaGreatDoorW.PrintWords Go.Proofs.YtmimninicegjcaaGreatDoorW.PrintLast
set_option linter.unusedVariables false
set_option linter.unusedSimpArgs false
/-- What the document's walk over the rows ends in. -/
theorem trial_loop (l : List Col) (hn : l.length ≤ 1048576) (hs : ∀ c ∈ l, c.f0.size ≤ 1048576) (hi : ∀ c ∈ l, isI64 c.f1 ∧ isI64 c.f2) (d : Nat) (hd : d ≤ 6) (B : Nat) (hB : 2097200 ≤ B) (R : ByteArray × Int)
    (hend : whyOf l 0 = 0 → ∀ k, B ≤ k → QT.daybookref17_Trial.l0 k l (d : Int) (l.map (·.f1)) (l.map (·.f2)) ([head3] ++ l.map (trialRow d)) (l.length : Int) = some R)
    (hbad : whyOf l 0 ≠ 0 → R = (⟨#[]⟩, whyOf l 0)) (m : Nat) :
    ∀ (i k : Nat), i + m = l.length → 2 * m + B ≤ k → whyOf (l.take i) 0 = 0 →
    QT.daybookref17_Trial.l0 k l (d : Int) ((l.take i).map (·.f1)) ((l.take i).map (·.f2)) ([head3] ++ (l.take i).map (trialRow d)) (i : Int) = some R := by
  induction m with
  | zero =>
    intro i k him hk hw
    have : l.take i = l := List.take_of_length_le (by omega)
    rw [this] at hw ⊢
    obtain rfl : i = l.length := by omega
    exact hend hw k (by omega)
  | succ m ih =>
    intro i k him hk hw
    obtain ⟨k, rfl⟩ : ∃ j, k = j + 2 := ⟨k - 2, by omega⟩
    have hlt : i < l.length := by omega
    have hmem := List.getElem_mem hlt
    have hsnoc := whyOf_snoc l 0 i hlt
    rw [hw] at hsnoc
    have hfull : whyOf l 0 = whyOf (l.drop (i + 1)) (whyCol 0 l[i]) := by
      conv => lhs; rw [← List.take_append_drop (i + 1) l]
      unfold whyOf
      rw [List.foldl_append]
      exact congrArg (fun y => List.foldl whyCol y (l.drop (i + 1))) hsnoc
    have hbad2 : ∀ y : Int, whyCol 0 l[i] = y → y ≠ 0 → R = (⟨#[]⟩, y) := fun y hy hne => by
      have hf : whyOf l 0 = y := by rw [hfull, hy, whyOf_ne _ _ hne]
      rw [← hf]
      exact hbad (by rw [hf]; exact hne)
    have hstep := j1_step k (by omega) l d hd ((l.take i).map (·.f1)) ((l.take i).map (·.f2)) ([head3] ++ (l.take i).map (trialRow d)) i (by omega) l[i]
    simp only [QT.daybookref17_Trial.l0]
    rw [if_pos (by omega), if_pos (by omega), rd_cols l i hlt, name_at _ (hs _ hmem) (k + 1) (by omega)]
    simp only [Option.bind_some]
    by_cases hg : goodName l[i].f0 = true
    · rw [if_pos hg]
      by_cases h1 : l[i].f1 < 0
      · rw [if_pos h1]
        simp only [QT.daybookref17_Trial.j1]
        rw [if_pos trivial, hbad2 10 (by unfold whyCol; simp only; rw [if_pos hg, if_pos (.inl h1)]; rfl) (by decide)]
      · rw [if_neg h1]
        by_cases h2 : l[i].f2 < 0
        · rw [decide_eq_true h2]
          simp only [QT.daybookref17_Trial.j1]
          rw [if_pos trivial, hbad2 10 (by unfold whyCol; simp only; rw [if_pos hg, if_pos (.inr h2)]; rfl) (by decide)]
        · rw [decide_eq_false h2]
          have hcol := hi _ hmem
          rw [hstep ⟨by omega, hcol.1.2⟩ ⟨by omega, hcol.2.2⟩ (by simp; omega) (by simp; omega) (by simp; omega)]
          have hw2 : whyOf (l.take (i + 1)) 0 = 0 := by
            rw [hsnoc]
            unfold whyCol
            simp only
            rw [if_pos hg, if_neg (by omega)]
          have hr := ih (i + 1) k (by omega) (by omega) hw2
          rw [List.take_succ_eq_append_getElem hlt, List.map_append, List.map_append, List.map_append, ← List.append_assoc] at hr
          exact hr
    · rw [if_neg hg]
      have hy : whyCol 0 l[i] = 60 := by
        unfold whyCol
        simp only
        rw [if_neg hg]
        have e : first1 0 60 = 60 := rfl
        rw [e, first1_ne (by decide)]
        split <;> rfl
      rw [hbad2 60 hy (by decide)]
end Go.Proofs.YtmimninicegjcaaGreatDoor
/- Plain laws: the document's Trial is trialOut: its end. -/
namespace Go.Proofs.YtmimninicegjcaaGreatDoor
open Go.RowKit Go.Shelf Go.Lib Go.Proofs.YtmimninicegjcaaGreatDoorW.PrintWords Go.Proofs.YtmimninicegjcaaGreatDoorW.PrintLast
set_option linter.unusedVariables false
set_option linter.unusedSimpArgs false
theorem refSum_some {l : List Int} (hn : l.length ≤ 1048576) (h : ∀ a ∈ l, -9223372036854775808 ≤ a ∧ a < 9223372036854775808) : L_RefSum.f l = some (sumSpec l) := by
  unfold L_RefSum.f
  rw [if_pos ⟨hn, by rw [List.all_eq_true]; exact fun a ha => decide_eq_true (h a ha)⟩]
theorem debits_of {l : List Col} (h : ∀ c ∈ l, 0 ≤ c.f1) : l.map (·.f1) = debits l := by
  unfold debits
  exact List.map_congr_left fun c hc => by have := h c hc; unfold mx; split <;> omega
theorem credits_of {l : List Col} (h : ∀ c ∈ l, 0 ≤ c.f2) : l.map (·.f2) = credits l := by
  unfold credits
  exact List.map_congr_left fun c hc => by have := h c hc; unfold mx; split <;> omega
theorem after_ne {y e : Int} (h : y ≠ 0) : after y e 11 = y := by
  unfold after
  split
  · rfl
  · exact first1_ne h
theorem trialOut_bad {l : List Col} {d y : Int} (h : whyOf l (why0 d) = y) (hy : y ≠ 0) : trialOut l d = (⟨#[]⟩, y) := by
  unfold trialOut
  rw [h, after_ne hy, after_ne hy, if_neg hy]
theorem sumSpec_nonneg {l : List Int} (h : ∀ a ∈ l, 0 ≤ a) : 0 ≤ (sumSpec l).1 := by
  have hs : 0 ≤ sumOf l := by
    induction l with
    | nil => exact Int.le_refl _
    | cons a l ih =>
      have e : sumOf (a :: l) = a + sumOf l := rfl
      have h1 := ih (fun x hx => h x (by simp [hx]))
      have h2 := h a (by simp)
      omega
  unfold sumSpec
  split
  · split
    · exact hs
    · exact Int.le_refl _
  · exact Int.le_refl _
theorem mx_nonneg {l : List Col} : (∀ a ∈ debits l, 0 ≤ a) ∧ ∀ a ∈ credits l, 0 ≤ a := by
  constructor
  · intro a ha
    unfold debits at ha
    obtain ⟨c, hc, rfl⟩ := List.mem_map.1 ha
    unfold mx; split <;> omega
  · intro a ha
    unfold credits at ha
    obtain ⟨c, hc, rfl⟩ := List.mem_map.1 ha
    unfold mx; split <;> omega
theorem trial_ref (l : List Col) (d : Int) (hn : l.length ≤ 1048576) (hs : ∀ c ∈ l, c.f0.size ≤ 1048576) (hi : ∀ c ∈ l, isI64 c.f1 ∧ isI64 c.f2) :
    ∃ K, ∀ k, K ≤ k → QT.daybookref17_Trial.f k l d = some (trialOut l d) := by
  unfold QT.daybookref17_Trial.f
  rw [digits_f]
  simp only [Option.bind_some]
  by_cases hd : 0 ≤ d ∧ d ≤ 6
  · obtain ⟨n, rfl⟩ : ∃ n : Nat, d = (n : Int) := ⟨d.toNat, by omega⟩
    have hw0 : why0 (n : Int) = 0 := by unfold why0; rw [if_pos hd]
    obtain ⟨C, hC⟩ : ∃ C : Nat, (C : Int) = 12583000 := ⟨12583000, rfl⟩
    obtain ⟨B, hB⟩ : ∃ B : Nat, ((l.length + 2) * C + 20000000 : Nat) = B := ⟨_, rfl⟩
    refine ⟨2 * l.length + B, fun k hk => ?_⟩
    rw [if_pos (decide_eq_true hd)]
    have := trial_loop l hn hs hi n (by omega) B (by omega) (trialOut l (n : Int)) ?_ (fun hb => trialOut_bad (by rw [hw0]) hb) l.length 0 k (by omega) hk rfl
    · exact this
    · intro hw k hk
      obtain ⟨k, rfl⟩ : ∃ j, k = j + 2 := ⟨k - 2, by omega⟩
      obtain ⟨_, hg⟩ := whyOf_zero l 0 hw
      have e1 := debits_of (fun c hc => (hg c hc).2.1)
      have e2 := credits_of (fun c hc => (hg c hc).2.2)
      have s1 : L_RefSum.f (debits l) = some (sumSpec (debits l)) := refSum_some (by simpa [debits] using hn) (fun a ha => by
        unfold debits at ha
        obtain ⟨c, hc, rfl⟩ := List.mem_map.1 ha
        exact mx_i64 (hi c hc).1)
      have s2 : L_RefSum.f (credits l) = some (sumSpec (credits l)) := refSum_some (by simpa [credits] using hn) (fun a ha => by
        unfold credits at ha
        obtain ⟨c, hc, rfl⟩ := List.mem_map.1 ha
        exact mx_i64 (hi c hc).2)
      simp only [QT.daybookref17_Trial.l0]
      rw [if_neg (by omega), e1, e2, s1, s2]
      simp only [Option.bind_some]
      have hA : after (whyOf l (why0 (n : Int))) (sumSpec (debits l)).2 11 = if (sumSpec (debits l)).2 = 0 then 0 else 11 := by
        rw [hw0, hw]; unfold after first1; split <;> simp
      unfold trialOut
      rw [hA]
      by_cases ha : (sumSpec (debits l)).2 = 0
      · rw [if_pos ha, if_pos ha]
        by_cases hb : (sumSpec (credits l)).2 = 0
        · have hb' : ((sumSpec (credits l)).2 != 0) = false := by simp [hb]
          have hz : after 0 (sumSpec (credits l)).2 11 = 0 := by unfold after; rw [if_pos hb]
          rw [hb', hz, if_pos rfl]
          have oa := sumSpec_ok ha
          have ob := sumSpec_ok hb
          have na := sumSpec_nonneg (mx_nonneg (l := l)).1
          have nb := sumSpec_nonneg (mx_nonneg (l := l)).2
          have hf := trialRows_fits (l := l) (d := n) (a := (sumSpec (debits l)).1) (b := (sumSpec (credits l)).1) hn hg hi (by unfold isI64; omega) (by unfold isI64; omega) (by omega)
          have h3 : ∀ r ∈ trialRows l n (sumSpec (debits l)).1 (sumSpec (credits l)).1, r.length = 3 := by
            intro r hr
            unfold trialRows at hr
            rw [List.mem_append, List.mem_append, List.mem_singleton, List.mem_singleton, List.mem_map] at hr
            rcases hr with (rfl | ⟨c, hc, rfl⟩) | rfl <;> rfl
          have hl : (trialRows l n (sumSpec (debits l)).1 (sumSpec (credits l)).1).length = l.length + 2 := by
            unfold trialRows; simp
          have hgs := grid_some _ (by omega) hf.w h3 k (by rw [hl, show ((12583000 : Nat)) = C by omega]; omega)
          simp only [QT.daybookref17_Trial.j2]
          rw [if_neg (by decide), money_at _ n na (by omega) (by omega) k (by omega), money_at _ n nb (by omega) (by omega) k (by omega)]
          simp only [Option.bind_some]
          rw [if_pos (by simp; omega)]
          have e : ([head3] ++ l.map (trialRow n)) ++ [[⟨#[83, 117, 109]⟩, moneyText (sumSpec (debits l)).1 n, moneyText (sumSpec (credits l)).1 n]] = trialRows l n (sumSpec (debits l)).1 (sumSpec (credits l)).1 := rfl
          rw [e, hgs]
          rfl
        · have hb' : ((sumSpec (credits l)).2 != 0) = true := bne_iff_ne.2 hb
          have hz : after 0 (sumSpec (credits l)).2 11 = 11 := by unfold after; rw [if_neg hb]; rfl
          rw [hb', hz, if_neg (by decide)]
          simp only [QT.daybookref17_Trial.j2]
          rfl
      · rw [if_neg ha, if_neg ha, after_ne (by decide), if_neg (by decide)]
        simp only [QT.daybookref17_Trial.j2]
        rfl
  · have hw0 : why0 d = 1 := by unfold why0; rw [if_neg hd]
    refine ⟨0, fun k _ => ?_⟩
    rw [if_neg (by rw [decide_eq_false hd]; decide), trialOut_bad (y := 1) (by rw [hw0]; exact whyOf_ne l 1 (by decide)) (by decide)]
end Go.Proofs.YtmimninicegjcaaGreatDoor

/- Plain laws: the room behind a list of columns, and that it is kept; like; first. -/
import Derived.Test.YtmimninicegjcaaGreatDoorStKeptT
import Derived.Test.YtmimninicegjcaaGreatDoorStMColsLawTrials
import Derived.Test.YtmimninicegjcaaGreatDoorStMPureEPureFPureGPureHPure
import Derived.Test.YtmimninicegjcaaGreatDoorStMarksCols
import Derived.Test.YtmimninicegjcaaGreatDoorStQT9
namespace Go.Proofs.YtmimninicegjcaaGreatDoor
open Go.RowKit Go.Shelf Go.Lib Go.Proofs.YtmimninicegjcaaGreatDoorW.PrintWords Go.Proofs.YtmimninicegjcaaGreatDoorW.PrintLast
set_option linter.unusedVariables false
set_option linter.unusedSimpArgs false
theorem room_loop (x : List Col) (hx : x.length ≤ 1048576) (m : Nat) : ∀ i k : Nat, i + m = 64 → m < k → QT.daybookkeep_RoomColumns.l0 k (x ++ marksC i) (i : Int) = some (x ++ marksC 64) := by
  induction m with
  | zero =>
    intro i k hi hk
    obtain ⟨k, rfl⟩ : ∃ j, k = j + 1 := ⟨k - 1, by omega⟩
    obtain rfl : i = 64 := by omega
    simp only [QT.daybookkeep_RoomColumns.l0]
    rw [if_neg (by omega)]
  | succ m ih =>
    intro i k hi hk
    obtain ⟨k, rfl⟩ : ∃ j, k = j + 1 := ⟨k - 1, by omega⟩
    simp only [QT.daybookkeep_RoomColumns.l0]
    rw [if_pos (by omega), markC_some (by omega)]
    simp only [Option.bind_some]
    rw [if_pos (by rw [List.length_append, marksC_length]; omega)]
    have w1 : wrap64 ((i : Int) + 1) = ((i + 1 : Nat) : Int) := by unfold wrap64; omega
    rw [w1, List.append_assoc, ← marksC_succ]
    exact ih (i + 1) k (by omega) (by omega)
theorem room_some (l : List Col) (hl : l.length ≤ 1048576) (k : Nat) (hk : 65 ≤ k) : QT.daybookkeep_RoomColumns.f k l = some (l ++ marksC 64) := by
  unfold QT.daybookkeep_RoomColumns.f
  simp only [Option.bind_some]
  rw [if_pos (by simp; omega)]
  have := room_loop l hl 64 0 k (by omega) (by omega)
  simpa [marksC] using this
theorem kept_one (x : List Col) (y : Int) (h0 : 0 ≤ y) (h1 : y < (x.length : Int)) : QT.rd_T31 (x ++ marksC 64) y = QT.rd_T31 x y := by
  obtain ⟨i, rfl⟩ : ∃ i : Nat, y = (i : Int) := ⟨y.toNat, by omega⟩
  have hi : i < x.length := by omega
  rw [rd_cols _ i (by rw [List.length_append]; omega), rd_cols x i hi, List.getElem_append_left hi]
theorem kept_two (x : List Col) (hx : x.length ≤ 1048576) (y : Int) (h0 : (x.length : Int) ≤ y) (h1 : y < ((x ++ marksC 64).length : Int)) (t : ByteArray × Int × Int) (ht : QT.daybookkeep_markColumns.f 700000 (wrap64 (y - (x.length : Int))) = some t) :
    QT.rd_T31 (x ++ marksC 64) y = ⟨t.1, t.2.1, t.2.2⟩ := by
  obtain ⟨j, rfl⟩ : ∃ j : Nat, y = ((x.length + j : Nat) : Int) := ⟨(y - x.length).toNat, by omega⟩
  have hj : j < 64 := by rw [List.length_append, marksC_length] at h1; omega
  have w2 : wrap64 (((x.length + j : Nat) : Int) - (x.length : Int)) = (j : Int) := by unfold wrap64; omega
  rw [w2, markC_some hj] at ht
  obtain rfl := Option.some.inj ht
  rw [rd_cols _ _ (by rw [List.length_append, marksC_length]; omega), List.getElem_append_right (by omega)]
  simp [marksC]
theorem kept_loop (x : List Col) (hx : x.length ≤ 1048576) (m : Nat) : ∀ i k : Nat, i + m = x.length + 64 → m < k → QT.daybookkeep_KeptColumns.l0 k (x ++ marksC 64) x (i : Int) = some true := by
  induction m with
  | zero =>
    intro i k hi hk
    obtain ⟨k, rfl⟩ : ∃ j, k = j + 1 := ⟨k - 1, by omega⟩
    simp only [QT.daybookkeep_KeptColumns.l0]
    rw [if_neg (by rw [List.length_append, marksC_length]; omega)]
  | succ m ih =>
    intro i k hi hk
    obtain ⟨k, rfl⟩ : ∃ j, k = j + 1 := ⟨k - 1, by omega⟩
    have hlt : i < (x ++ marksC 64).length := by rw [List.length_append, marksC_length]; omega
    have w1 : wrap64 ((i : Int) + 1) = ((i + 1 : Nat) : Int) := by unfold wrap64; omega
    have hr := ih (i + 1) k (by omega) (by omega)
    have hlt2 : (i : Int) < ((x ++ marksC 64).length : Int) := by omega
    simp only [QT.daybookkeep_KeptColumns.l0]
    rw [if_pos hlt2, rd_cols _ i hlt]
    by_cases h : i < x.length
    · have e : (x ++ marksC 64)[i] = x[i] := List.getElem_append_left h
      rw [if_pos (by omega), if_pos (by omega), rd_cols x i h, e, same_refl]
      simp only [Option.bind_some, if_true]
      rw [if_neg (by omega), w1]
      exact hr
    · obtain ⟨j, rfl⟩ : ∃ j, i = x.length + j := ⟨i - x.length, by omega⟩
      have e : (x ++ marksC 64)[x.length + j] = markC j := by
        rw [List.getElem_append_right (by omega)]
        simp [marksC]
      have w2 : wrap64 (((x.length + j : Nat) : Int) - (x.length : Int)) = (j : Int) := by unfold wrap64; omega
      rw [if_neg (by omega), if_pos (by omega), if_pos (by omega), w2, markC_some (by omega)]
      simp only [Option.bind_some]
      rw [e, same_refl]
      simp only [Option.bind_some, if_true]
      rw [w1]
      exact hr
theorem kept_some (l : List Col) (hl : l.length ≤ 1048576) (k : Nat) (hk : l.length + 65 ≤ k) : QT.daybookkeep_KeptColumns.f k (l ++ marksC 64) l = some true := by
  unfold QT.daybookkeep_KeptColumns.f
  rw [if_pos (by rw [List.length_append, marksC_length]; unfold wrap64; omega)]
  exact kept_loop l hl (l.length + 64) 0 k (by omega) (by omega)
theorem keptOk (l : List Col) (hl : l.length ≤ 1048576) : KeptOk (l ++ marksC 64) l := fun W A0 c0 A1 c1 h0 h1 h2 h3 h4 =>
  QT.daybookkeep_KeptColumns.kept (l.length + 65) A0 c0 (l ++ marksC 64) A1 c1 l true W h0 h1 h2 h3 h4
    (fun y h0 h1 => by rw [kept_one l y h0 h1]; exact same_refl _) (fun y h0 h1 t ht => by rw [kept_two l hl y h0 h1 t ht]; exact same_refl ⟨t.1, t.2.1, t.2.2⟩) (kept_some l hl _ (Nat.le_refl _))
theorem like_refl (s : ByteArray) (e : Int) : QT.daybooklaw17_like.f s e s e = some true := by
  unfold QT.daybooklaw17_like.f QT.daybooklaw17_num.f
  simp
theorem first_true : QT.daybooklaw17_first.f = some true := by
  decide +kernel
end Go.Proofs.YtmimninicegjcaaGreatDoor

/- Plain laws: the room behind lists of ints, of cells, of rows, and that it is kept. (wip/gen_kept.py) -/
import Derived.Test.YtmimninicegjcaaGreatDoorTbKeptC
import Derived.Test.YtmimninicegjcaaGreatDoorTbKeptI
import Derived.Test.YtmimninicegjcaaGreatDoorTbKeptR
import Derived.Test.YtmimninicegjcaaGreatDoorTbMLooseALooseB
import Derived.Test.YtmimninicegjcaaGreatDoorTbPureP
namespace Go.Proofs.YtmimninicegjcaaGreatDoor
open Go.RowKit Go.Shelf Go.Lib Go.Proofs.YtmimninicegjcaaGreatDoorW.PrintWords Go.Proofs.YtmimninicegjcaaGreatDoorW.PrintLast
set_option linter.unusedVariables false
set_option linter.unusedSimpArgs false
def markInt (j : Nat) : Int := wrap64 ((wrap64 ((-1000000) * (wrap64 ((Int.tmod 700000 1000) + 1)))) - j)
def markCel (j : Nat) : Cel := ⟨wrap64 (wrap64 (-700000) - 1), wrap64 (wrap64 (-(j : Int)) - 1), ⟨#[]⟩⟩
theorem same_Ints (c : Int) : QS.daybookkeep_sameInts.f c c = some true := by simp [QS.daybookkeep_sameInts.f]
theorem same_Cells (c : Cel) : QS.daybookkeep_sameCells.f c.f0 c.f1 c.f2 c.f0 c.f1 c.f2 = some true := by simp [QS.daybookkeep_sameCells.f]
theorem same_Rows (c : List Cel) : QS.daybookkeep_sameRows.f c c = some true := by
  unfold QS.daybookkeep_sameRows.f
  rw [if_pos rfl]
  by_cases h : (c.length : Int) = 0
  · rw [if_pos h]
  · rw [if_neg h, if_pos (by omega)]
    simp
    intro e
    exact h (by simp [e])

/-! ### Ints -/
theorem markInts_some (j : Nat) : QS.daybookkeep_markInts.f 700000 (j : Int) = some (markInt j) := rfl
def marksInts (n : Nat) : List (Int) := (List.range n).map markInt
theorem marksInts_length (n : Nat) : (marksInts n).length = n := by simp [marksInts]
theorem marksInts_succ (n : Nat) : marksInts (n + 1) = marksInts n ++ [markInt n] := by simp [marksInts, List.range_succ]
theorem roomInts_loop (x : List (Int)) (hx : x.length ≤ 1048576) (m : Nat) : ∀ i k : Nat, i + m = 64 → m < k → QS.daybookkeep_RoomInts.l0 k (x ++ marksInts i) (i : Int) = some (x ++ marksInts 64) := by
  induction m with
  | zero =>
    intro i k hi hk
    obtain ⟨k, rfl⟩ : ∃ j, k = j + 1 := ⟨k - 1, by omega⟩
    obtain rfl : i = 64 := by omega
    simp only [QS.daybookkeep_RoomInts.l0]
    rw [if_neg (by omega)]
  | succ m ih =>
    intro i k hi hk
    obtain ⟨k, rfl⟩ : ∃ j, k = j + 1 := ⟨k - 1, by omega⟩
    simp only [QS.daybookkeep_RoomInts.l0]
    rw [if_pos (by omega), markInts_some i]
    simp only [Option.bind_some]
    rw [if_pos (by rw [List.length_append, marksInts_length]; omega)]
    have w1 : wrap64 ((i : Int) + 1) = ((i + 1 : Nat) : Int) := by unfold wrap64; omega
    rw [w1, List.append_assoc]
    have hr := ih (i + 1) k (by omega) (by omega)
    rw [marksInts_succ] at hr
    exact hr
theorem roomInts_some (l : List (Int)) (hl : l.length ≤ 1048576) (k : Nat) (hk : 65 ≤ k) : QS.daybookkeep_RoomInts.f k l = some (l ++ marksInts 64) := by
  unfold QS.daybookkeep_RoomInts.f
  simp only [Option.bind_some]
  rw [if_pos (by simp; omega)]
  have := roomInts_loop l hl 64 0 k (by omega) (by omega)
  simpa [marksInts] using this
theorem keptInts_one (x : List (Int)) (y : Int) (h0 : 0 ≤ y) (h1 : y < (x.length : Int)) : rd (x ++ marksInts 64) y = rd x y := by
  obtain ⟨i, rfl⟩ : ∃ i : Nat, y = (i : Int) := ⟨y.toNat, by omega⟩
  have hi : i < x.length := by omega
  rw [rd_ints _ i (by rw [List.length_append]; omega), rd_ints x i hi, List.getElem_append_left hi]
theorem keptInts_two (x : List (Int)) (hx : x.length ≤ 1048576) (y : Int) (h0 : (x.length : Int) ≤ y) (h1 : y < ((x ++ marksInts 64).length : Int)) (t : Int) (ht : QS.daybookkeep_markInts.f 700000 (wrap64 (y - (x.length : Int))) = some t) :
    rd (x ++ marksInts 64) y = t := by
  obtain ⟨j, rfl⟩ : ∃ j : Nat, y = ((x.length + j : Nat) : Int) := ⟨(y - x.length).toNat, by omega⟩
  have hj : j < 64 := by rw [List.length_append, marksInts_length] at h1; omega
  have w2 : wrap64 (((x.length + j : Nat) : Int) - (x.length : Int)) = (j : Int) := by unfold wrap64; omega
  rw [w2, markInts_some j] at ht
  obtain rfl := Option.some.inj ht
  rw [rd_ints _ _ (by rw [List.length_append, marksInts_length]; omega), List.getElem_append_right (by omega)]
  simp [marksInts]
theorem keptInts_loop (x : List (Int)) (hx : x.length ≤ 1048576) (m : Nat) : ∀ i k : Nat, i + m = x.length + 64 → m < k → QS.daybookkeep_KeptInts.l0 k (x ++ marksInts 64) x (i : Int) = some true := by
  induction m with
  | zero =>
    intro i k hi hk
    obtain ⟨k, rfl⟩ : ∃ j, k = j + 1 := ⟨k - 1, by omega⟩
    simp only [QS.daybookkeep_KeptInts.l0]
    rw [if_neg (by rw [List.length_append, marksInts_length]; omega)]
  | succ m ih =>
    intro i k hi hk
    obtain ⟨k, rfl⟩ : ∃ j, k = j + 1 := ⟨k - 1, by omega⟩
    have hlt : i < (x ++ marksInts 64).length := by rw [List.length_append, marksInts_length]; omega
    have w1 : wrap64 ((i : Int) + 1) = ((i + 1 : Nat) : Int) := by unfold wrap64; omega
    have hr := ih (i + 1) k (by omega) (by omega)
    have hlt2 : (i : Int) < ((x ++ marksInts 64).length : Int) := by omega
    simp only [QS.daybookkeep_KeptInts.l0]
    rw [if_pos hlt2, rd_ints _ i hlt]
    by_cases h : i < x.length
    · have e : (x ++ marksInts 64)[i] = x[i] := List.getElem_append_left h
      rw [if_pos (by omega), if_pos (by omega), rd_ints x i h, e, same_Ints]
      simp only [Option.bind_some, if_true]
      rw [if_neg (by omega), w1]
      exact hr
    · obtain ⟨j, rfl⟩ : ∃ j, i = x.length + j := ⟨i - x.length, by omega⟩
      have e : (x ++ marksInts 64)[x.length + j] = markInt j := by
        rw [List.getElem_append_right (by omega)]
        simp [marksInts]
      have w2 : wrap64 (((x.length + j : Nat) : Int) - (x.length : Int)) = (j : Int) := by unfold wrap64; omega
      rw [if_neg (by omega), if_pos (by omega), if_pos (by omega), w2, markInts_some j]
      simp only [Option.bind_some]
      rw [e, same_Ints]
      simp only [Option.bind_some, if_true]
      rw [w1]
      exact hr
theorem keptInts_some (l : List (Int)) (hl : l.length ≤ 1048576) (k : Nat) (hk : l.length + 65 ≤ k) : QS.daybookkeep_KeptInts.f k (l ++ marksInts 64) l = some true := by
  unfold QS.daybookkeep_KeptInts.f
  rw [if_pos (by rw [List.length_append, marksInts_length]; unfold wrap64; omega)]
  exact keptInts_loop l hl (l.length + 64) 0 k (by omega) (by omega)
theorem keptInts_calls (l : List (Int)) (hl : l.length ≤ 1048576) (W : World) (A0 : Option Addr) (c0 : Nat) (A1 : Option Addr) (c1 : Nat) (h0 : Kd.C (Kd.int .i64) W A0 (l ++ marksInts 64).length (l ++ marksInts 64)) (h1 : (l ++ marksInts 64).length ≤ c0) (h2 : Kd.C (Kd.int .i64) W A1 l.length l) (h3 : l.length ≤ c1) :
    Calls Tryz.prog 61 #[.slice A0 (l ++ marksInts 64).length c0, .slice A1 l.length c1] W fun e_ w' => e_ = .returned (.bool true) ∧ Below W.heap.size W w' :=
  QS.daybookkeep_KeptInts.kept (l.length + 65) A0 c0 (l ++ marksInts 64) A1 c1 l true W h0 h1 h2 h3
    (fun y h0 h1 => by rw [keptInts_one l y h0 h1]; exact same_Ints _) (fun y h0 h1 t ht => by rw [keptInts_two l hl y h0 h1 t ht]; exact same_Ints t) (keptInts_some l hl _ (Nat.le_refl _))

/-! ### Cells -/
theorem markCells_some (j : Nat) : QS.daybookkeep_markCells.f 700000 (j : Int) = some ((markCel j).f0, (markCel j).f1, (markCel j).f2) := rfl
def marksCells (n : Nat) : List (Cel) := (List.range n).map markCel
theorem marksCells_length (n : Nat) : (marksCells n).length = n := by simp [marksCells]
theorem marksCells_succ (n : Nat) : marksCells (n + 1) = marksCells n ++ [markCel n] := by simp [marksCells, List.range_succ]
theorem roomCells_loop (x : List (Cel)) (hx : x.length ≤ 1048576) (m : Nat) : ∀ i k : Nat, i + m = 64 → m < k → QS.daybookkeep_RoomCells.l0 k (x ++ marksCells i) (i : Int) = some (x ++ marksCells 64) := by
  induction m with
  | zero =>
    intro i k hi hk
    obtain ⟨k, rfl⟩ : ∃ j, k = j + 1 := ⟨k - 1, by omega⟩
    obtain rfl : i = 64 := by omega
    simp only [QS.daybookkeep_RoomCells.l0]
    rw [if_neg (by omega)]
  | succ m ih =>
    intro i k hi hk
    obtain ⟨k, rfl⟩ : ∃ j, k = j + 1 := ⟨k - 1, by omega⟩
    simp only [QS.daybookkeep_RoomCells.l0]
    rw [if_pos (by omega), markCells_some i]
    simp only [Option.bind_some]
    rw [if_pos (by rw [List.length_append, marksCells_length]; omega)]
    have w1 : wrap64 ((i : Int) + 1) = ((i + 1 : Nat) : Int) := by unfold wrap64; omega
    rw [w1, List.append_assoc]
    have hr := ih (i + 1) k (by omega) (by omega)
    rw [marksCells_succ] at hr
    exact hr
theorem roomCells_some (l : List (Cel)) (hl : l.length ≤ 1048576) (k : Nat) (hk : 65 ≤ k) : QS.daybookkeep_RoomCells.f k l = some (l ++ marksCells 64) := by
  unfold QS.daybookkeep_RoomCells.f
  simp only [Option.bind_some]
  rw [if_pos (by simp; omega)]
  have := roomCells_loop l hl 64 0 k (by omega) (by omega)
  simpa [marksCells] using this
theorem keptCells_one (x : List (Cel)) (y : Int) (h0 : 0 ≤ y) (h1 : y < (x.length : Int)) : QS.rd_T43 (x ++ marksCells 64) y = QS.rd_T43 x y := by
  obtain ⟨i, rfl⟩ : ∃ i : Nat, y = (i : Int) := ⟨y.toNat, by omega⟩
  have hi : i < x.length := by omega
  rw [rd_cels _ i (by rw [List.length_append]; omega), rd_cels x i hi, List.getElem_append_left hi]
theorem keptCells_two (x : List (Cel)) (hx : x.length ≤ 1048576) (y : Int) (h0 : (x.length : Int) ≤ y) (h1 : y < ((x ++ marksCells 64).length : Int)) (t : Int × Int × ByteArray) (ht : QS.daybookkeep_markCells.f 700000 (wrap64 (y - (x.length : Int))) = some t) :
    QS.rd_T43 (x ++ marksCells 64) y = ⟨t.1, t.2.1, t.2.2⟩ := by
  obtain ⟨j, rfl⟩ : ∃ j : Nat, y = ((x.length + j : Nat) : Int) := ⟨(y - x.length).toNat, by omega⟩
  have hj : j < 64 := by rw [List.length_append, marksCells_length] at h1; omega
  have w2 : wrap64 (((x.length + j : Nat) : Int) - (x.length : Int)) = (j : Int) := by unfold wrap64; omega
  rw [w2, markCells_some j] at ht
  obtain rfl := Option.some.inj ht
  rw [rd_cels _ _ (by rw [List.length_append, marksCells_length]; omega), List.getElem_append_right (by omega)]
  simp [marksCells]
theorem keptCells_loop (x : List (Cel)) (hx : x.length ≤ 1048576) (m : Nat) : ∀ i k : Nat, i + m = x.length + 64 → m < k → QS.daybookkeep_KeptCells.l0 k (x ++ marksCells 64) x (i : Int) = some true := by
  induction m with
  | zero =>
    intro i k hi hk
    obtain ⟨k, rfl⟩ : ∃ j, k = j + 1 := ⟨k - 1, by omega⟩
    simp only [QS.daybookkeep_KeptCells.l0]
    rw [if_neg (by rw [List.length_append, marksCells_length]; omega)]
  | succ m ih =>
    intro i k hi hk
    obtain ⟨k, rfl⟩ : ∃ j, k = j + 1 := ⟨k - 1, by omega⟩
    have hlt : i < (x ++ marksCells 64).length := by rw [List.length_append, marksCells_length]; omega
    have w1 : wrap64 ((i : Int) + 1) = ((i + 1 : Nat) : Int) := by unfold wrap64; omega
    have hr := ih (i + 1) k (by omega) (by omega)
    have hlt2 : (i : Int) < ((x ++ marksCells 64).length : Int) := by omega
    simp only [QS.daybookkeep_KeptCells.l0]
    rw [if_pos hlt2, rd_cels _ i hlt]
    by_cases h : i < x.length
    · have e : (x ++ marksCells 64)[i] = x[i] := List.getElem_append_left h
      rw [if_pos (by omega), if_pos (by omega), rd_cels x i h, e, same_Cells]
      simp only [Option.bind_some, if_true]
      rw [if_neg (by omega), w1]
      exact hr
    · obtain ⟨j, rfl⟩ : ∃ j, i = x.length + j := ⟨i - x.length, by omega⟩
      have e : (x ++ marksCells 64)[x.length + j] = markCel j := by
        rw [List.getElem_append_right (by omega)]
        simp [marksCells]
      have w2 : wrap64 (((x.length + j : Nat) : Int) - (x.length : Int)) = (j : Int) := by unfold wrap64; omega
      rw [if_neg (by omega), if_pos (by omega), if_pos (by omega), w2, markCells_some j]
      simp only [Option.bind_some]
      rw [e, same_Cells]
      simp only [Option.bind_some, if_true]
      rw [w1]
      exact hr
theorem keptCells_some (l : List (Cel)) (hl : l.length ≤ 1048576) (k : Nat) (hk : l.length + 65 ≤ k) : QS.daybookkeep_KeptCells.f k (l ++ marksCells 64) l = some true := by
  unfold QS.daybookkeep_KeptCells.f
  rw [if_pos (by rw [List.length_append, marksCells_length]; unfold wrap64; omega)]
  exact keptCells_loop l hl (l.length + 64) 0 k (by omega) (by omega)
theorem keptCells_calls (l : List (Cel)) (hl : l.length ≤ 1048576) (W : World) (A0 : Option Addr) (c0 : Nat) (A1 : Option Addr) (c1 : Nat) (h0 : Kd.C QS.k43 W A0 (l ++ marksCells 64).length (l ++ marksCells 64)) (h1 : (l ++ marksCells 64).length ≤ c0) (h2 : Kd.C QS.k43 W A1 l.length l) (h3 : l.length ≤ c1) :
    Calls Tryz.prog 63 #[.slice A0 (l ++ marksCells 64).length c0, .slice A1 l.length c1] W fun e_ w' => e_ = .returned (.bool true) ∧ Below W.heap.size W w' :=
  QS.daybookkeep_KeptCells.kept (l.length + 65) A0 c0 (l ++ marksCells 64) A1 c1 l true W h0 h1 h2 h3
    (fun y h0 h1 => by rw [keptCells_one l y h0 h1]; exact same_Cells _) (fun y h0 h1 t ht => by rw [keptCells_two l hl y h0 h1 t ht]; exact same_Cells ⟨t.1, t.2.1, t.2.2⟩) (keptCells_some l hl _ (Nat.le_refl _))

/-! ### Rows -/
theorem markRows_some (j : Nat) : QS.daybookkeep_markRows.f 700000 (j : Int) = some (markRow j) := rfl
def marksRows (n : Nat) : List (List Cel) := (List.range n).map markRow
theorem marksRows_length (n : Nat) : (marksRows n).length = n := by simp [marksRows]
theorem keptRows_one (x : List (List Cel)) (y : Int) (h0 : 0 ≤ y) (h1 : y < (x.length : Int)) : QS.rd_L4 (x ++ marksRows 64) y = QS.rd_L4 x y := by
  obtain ⟨i, rfl⟩ : ∃ i : Nat, y = (i : Int) := ⟨y.toNat, by omega⟩
  have hi : i < x.length := by omega
  rw [rd_crows _ i (by rw [List.length_append]; omega), rd_crows x i hi, List.getElem_append_left hi]
theorem keptRows_two (x : List (List Cel)) (hx : x.length ≤ 1048576) (y : Int) (h0 : (x.length : Int) ≤ y) (h1 : y < ((x ++ marksRows 64).length : Int)) (t : List Cel) (ht : QS.daybookkeep_markRows.f 700000 (wrap64 (y - (x.length : Int))) = some t) :
    QS.rd_L4 (x ++ marksRows 64) y = t := by
  obtain ⟨j, rfl⟩ : ∃ j : Nat, y = ((x.length + j : Nat) : Int) := ⟨(y - x.length).toNat, by omega⟩
  have hj : j < 64 := by rw [List.length_append, marksRows_length] at h1; omega
  have w2 : wrap64 (((x.length + j : Nat) : Int) - (x.length : Int)) = (j : Int) := by unfold wrap64; omega
  rw [w2, markRows_some j] at ht
  obtain rfl := Option.some.inj ht
  rw [rd_crows _ _ (by rw [List.length_append, marksRows_length]; omega), List.getElem_append_right (by omega)]
  simp [marksRows]
theorem keptRows_loop (x : List (List Cel)) (hx : x.length ≤ 1048576) (m : Nat) : ∀ i k : Nat, i + m = x.length + 64 → m < k → QS.daybookkeep_KeptRows.l0 k (x ++ marksRows 64) x (i : Int) = some true := by
  induction m with
  | zero =>
    intro i k hi hk
    obtain ⟨k, rfl⟩ : ∃ j, k = j + 1 := ⟨k - 1, by omega⟩
    simp only [QS.daybookkeep_KeptRows.l0]
    rw [if_neg (by rw [List.length_append, marksRows_length]; omega)]
  | succ m ih =>
    intro i k hi hk
    obtain ⟨k, rfl⟩ : ∃ j, k = j + 1 := ⟨k - 1, by omega⟩
    have hlt : i < (x ++ marksRows 64).length := by rw [List.length_append, marksRows_length]; omega
    have w1 : wrap64 ((i : Int) + 1) = ((i + 1 : Nat) : Int) := by unfold wrap64; omega
    have hr := ih (i + 1) k (by omega) (by omega)
    have hlt2 : (i : Int) < ((x ++ marksRows 64).length : Int) := by omega
    simp only [QS.daybookkeep_KeptRows.l0]
    rw [if_pos hlt2, rd_crows _ i hlt]
    by_cases h : i < x.length
    · have e : (x ++ marksRows 64)[i] = x[i] := List.getElem_append_left h
      rw [if_pos (by omega), if_pos (by omega), rd_crows x i h, e, same_Rows]
      simp only [Option.bind_some, if_true]
      rw [if_neg (by omega), w1]
      exact hr
    · obtain ⟨j, rfl⟩ : ∃ j, i = x.length + j := ⟨i - x.length, by omega⟩
      have e : (x ++ marksRows 64)[x.length + j] = markRow j := by
        rw [List.getElem_append_right (by omega)]
        simp [marksRows]
      have w2 : wrap64 (((x.length + j : Nat) : Int) - (x.length : Int)) = (j : Int) := by unfold wrap64; omega
      rw [if_neg (by omega), if_pos (by omega), if_pos (by omega), w2, markRows_some j]
      simp only [Option.bind_some]
      rw [e, same_Rows]
      simp only [Option.bind_some, if_true]
      rw [w1]
      exact hr
theorem keptRows_some (l : List (List Cel)) (hl : l.length ≤ 1048576) (k : Nat) (hk : l.length + 65 ≤ k) : QS.daybookkeep_KeptRows.f k (l ++ marksRows 64) l = some true := by
  unfold QS.daybookkeep_KeptRows.f
  rw [if_pos (by rw [List.length_append, marksRows_length]; unfold wrap64; omega)]
  exact keptRows_loop l hl (l.length + 64) 0 k (by omega) (by omega)
theorem keptRows_calls (l : List (List Cel)) (hl : l.length ≤ 1048576) (W : World) (A0 : Option Addr) (c0 : Nat) (A1 : Option Addr) (c1 : Nat) (h0 : Kd.C (Kd.slice 43 QS.k43) W A0 (l ++ marksRows 64).length (l ++ marksRows 64)) (h1 : (l ++ marksRows 64).length ≤ c0) (h2 : Kd.C (Kd.slice 43 QS.k43) W A1 l.length l) (h3 : l.length ≤ c1) :
    Calls Tryz.prog 62 #[.slice A0 (l ++ marksRows 64).length c0, .slice A1 l.length c1] W fun e_ w' => e_ = .returned (.bool true) ∧ Below W.heap.size W w' :=
  QS.daybookkeep_KeptRows.kept (l.length + 65) A0 c0 (l ++ marksRows 64) A1 c1 l true W h0 h1 h2 h3
    (fun y h0 h1 => by rw [keptRows_one l y h0 h1]; exact same_Rows _) (fun y h0 h1 t ht => by rw [keptRows_two l hl y h0 h1 t ht]; exact same_Rows t) (keptRows_some l hl _ (Nat.le_refl _))
end Go.Proofs.YtmimninicegjcaaGreatDoor


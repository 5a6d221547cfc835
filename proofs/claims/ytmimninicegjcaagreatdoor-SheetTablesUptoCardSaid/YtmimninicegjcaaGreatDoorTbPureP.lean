/- Plain laws: the document's Table is tableOut. -/
import Derived.Test.YtmimninicegjcaaGreatDoorTbMPureLPureBPureCPureMPure
import Derived.Test.YtmimninicegjcaaGreatDoorTbQS6
import Derived.Test.YtmimninicegjcaaGreatDoorTbTableC
namespace Go.Proofs.YtmimninicegjcaaGreatDoor
open Go.RowKit Go.Shelf Go.Lib Go.Proofs.YtmimninicegjcaaGreatDoorW.PrintWords Go.Proofs.YtmimninicegjcaaGreatDoorW.PrintLast
set_option linter.unusedVariables false
set_option linter.unusedSimpArgs false
def CellsIn (rows : List (List Cel)) : Prop := ∀ r ∈ rows, ∀ c ∈ r, isI64 c.f1 ∧ c.f2.size ≤ 1048576
theorem cellT_fits {c : Cel} {d : Int} (hd0 : 0 ≤ d) (hd6 : d ≤ 6) (h : isI64 c.f1 ∧ c.f2.size ≤ 1048576) : (cellT c d).1.size ≤ 1048700 ∧ QS.sheet_cell.f (c.f2.size + 30000) c.f0 c.f1 c.f2 d = some (cellT c d) ∧
    ∀ k typ, 1078576 ≤ k → 1 ≤ typ → typ ≤ 5 → QS.daybookref17_cell.f k c.f0 c.f1 c.f2 typ d = some (if c.f0 = typ then cellT c d else (⟨#[]⟩, 140)) := by
  obtain ⟨r, h1, h2, h3⟩ := cell_both c d hd0 hd6 h.1 h.2
  rw [cellT_is h2]
  exact ⟨h1, h2 _ (Nat.le_refl _), fun k typ hk t1 t5 => h3 k typ (by have := h.2; omega) t1 t5⟩
def rights (types : List Int) : List Bool := types.map fun t => t == 1 || t == 5
theorem rd_ints (l : List Int) (i : Nat) (h : i < l.length) : rd l (i : Int) = l[i] := by simp [rd, List.getD_eq_getElem?_getD, List.getElem?_eq_getElem h]
theorem rd_cels (l : List Cel) (i : Nat) (h : i < l.length) : QS.rd_T43 l (i : Int) = l[i] := by simp [QS.rd_T43, List.getD_eq_getElem?_getD, List.getElem?_eq_getElem h]
theorem rd_crows (l : List (List Cel)) (i : Nat) (h : i < l.length) : QS.rd_L4 l (i : Int) = l[i] := by simp [QS.rd_L4, List.getD_eq_getElem?_getD, List.getElem?_eq_getElem h]
/-- The types' walk. -/
theorem types_loop (types : List Int) (hn : types.length ≤ 1048576) (d : Int) (rows : List (List Cel)) (B : Nat) (R : ByteArray × Int) (hgood : types.all typeOk = true → ∀ k, B ≤ k → QS.daybookref17_Table.l1 k d (rights types) [] 0 types rows = some R)
    (hbad : types.all typeOk = false → R = (⟨#[]⟩, 140)) (m : Nat) : ∀ (i k : Nat), i + m = types.length → m + B < k → (types.take i).all typeOk = true →
    QS.daybookref17_Table.l0 k d (rights (types.take i)) (i : Int) types rows = some R := by
  induction m with
  | zero =>
    intro i k hi hk ht
    obtain ⟨k, rfl⟩ : ∃ j, k = j + 1 := ⟨k - 1, by omega⟩
    have : types.take i = types := List.take_of_length_le (by omega)
    rw [this] at ht ⊢
    simp only [QS.daybookref17_Table.l0]
    rw [if_neg (by omega)]
    exact hgood ht k (by omega)
  | succ m ih =>
    intro i k hi hk ht
    obtain ⟨k, rfl⟩ : ∃ j, k = j + 1 := ⟨k - 1, by omega⟩
    have hlt : i < types.length := by omega
    have wi : wrap64 ((i : Int) + 1) = ((i + 1 : Nat) : Int) := by unfold wrap64; omega
    have hrl : (rights (types.take i)).length < 140737488355328 := by unfold rights; rw [List.length_map, List.length_take]; omega
    have hsnoc : rights (types.take (i + 1)) = rights (types.take i) ++ [types[i] == 1 || types[i] == 5] := by
      unfold rights
      rw [List.take_succ_eq_append_getElem hlt, List.map_append]
      rfl
    simp only [QS.daybookref17_Table.l0]
    rw [if_pos (by omega), if_pos (by omega), rd_ints types i hlt]
    by_cases h1 : types[i] < 1
    · rw [if_pos h1, hbad (typeOk_bad hlt (.inl h1))]
    · rw [if_neg h1]
      by_cases h5 : types[i] > 5
      · rw [if_pos h5, hbad (typeOk_bad hlt (.inr h5))]
      · rw [if_neg h5, wi]
        have hr := ih (i + 1) k (by omega) (by omega) (typeOk_take ht hlt (by omega) (by omega))
        rw [hsnoc] at hr
        by_cases e1 : types[i] = 1
        · rw [if_pos e1, if_pos hrl]
          rw [e1] at hr
          exact hr
        · rw [if_neg e1, if_pos hrl]
          have : (types[i] == 1 || types[i] == 5) = (types[i] == 5) := by rw [beq_eq_false_iff_ne.2 e1]; rfl
          rw [this] at hr
          exact hr
set_option maxHeartbeats 4000000 in
/-- One row's walk. -/
theorem row_loop (types : List Int) (hn : types.length ≤ 1048576) (ht : types.all typeOk = true) (d : Int) (hd0 : 0 ≤ d) (hd6 : d ≤ 6) (rows : List (List Cel)) (hin : CellsIn rows) (hn2 : rows.length ≤ 1048576) (x8 : List (List ByteArray)) (hx8 : x8.length ≤ 1048576)
    (i : Nat) (hi : i < rows.length) (hlen : rows[i].length = types.length) (right : List Bool) (m : Nat) : ∀ (c k kk : Nat), c + m = types.length → 1078576 ≤ kk → k = kk + m + 1 → (lineOut d (rows[i].take c) (types.take c)).2 = 0 →
    QS.daybookref17_Table.l2 k d right x8 (i : Int) (lineOut d (rows[i].take c) (types.take c)).1 (c : Int) types rows =
      if (lineOut d rows[i] types).2 = 0 then QS.daybookref17_Table.l1 kk d right (x8 ++ [(lineOut d rows[i] types).1]) ((i + 1 : Nat) : Int) types rows else some (⟨#[]⟩, (lineOut d rows[i] types).2) := by
  have hr := rd_crows rows i hi
  have wi : wrap64 ((i : Int) + 1) = ((i + 1 : Nat) : Int) := by unfold wrap64; omega
  induction m with
  | zero =>
    intro c k kk hc hkk hk hz
    subst hk
    have e1 : rows[i].take c = rows[i] := List.take_of_length_le (by omega)
    have e2 : types.take c = types := List.take_of_length_le (by omega)
    rw [e1, e2] at hz ⊢
    rw [if_pos hz]
    show QS.daybookref17_Table.l2 (kk + 1) _ _ _ _ _ _ _ _ = _
    simp only [QS.daybookref17_Table.l2]
    rw [if_neg (by omega), if_pos (by omega), wi]
  | succ m ih =>
    intro c k kk hc hkk hk hz
    obtain ⟨k, rfl⟩ : ∃ j, k = j + 1 := ⟨k - 1, by omega⟩
    have h1 : c < rows[i].length := by omega
    have h2 : c < types.length := by omega
    have wc : wrap64 ((c : Int) + 1) = ((c + 1 : Nat) : Int) := by unfold wrap64; omega
    have htc : 1 ≤ types[c] ∧ types[c] ≤ 5 := by
      have := List.all_eq_true.1 ht _ (List.getElem_mem h2)
      unfold typeOk at this
      simpa using this
    have a1 : (c : Int) < (types.length : Int) := by omega
    have a2 : (0 : Int) ≤ (i : Int) := Int.natCast_nonneg i
    have a3 : (i : Int) < (rows.length : Int) := by omega
    have a4 : (0 : Int) ≤ (c : Int) := Int.natCast_nonneg c
    have a5 : (c : Int) < (rows[i].length : Int) := by omega
    have hsz := (hin _ (List.getElem_mem hi) _ (List.getElem_mem h1)).2
    have a6 : 1078576 ≤ k := by omega
    obtain ⟨_, _, hcell⟩ := cellT_fits hd0 hd6 (hin _ (List.getElem_mem hi) _ (List.getElem_mem h1))
    have hll : (lineOut d (rows[i].take c) (types.take c)).1.length < 8796093022208 := by
      have e1 := lineOut_length d (rows[i].take c) (types.take c) hz
      have e2 : (types.take c).length ≤ types.length := List.length_take_le' c types
      have e3 := Nat.min_le_right (rows[i].take c).length (types.take c).length
      exact Nat.lt_of_le_of_lt (Nat.le_trans (Nat.le_of_eq e1) (Nat.le_trans e3 (Nat.le_trans e2 hn))) (by decide)
    simp only [QS.daybookref17_Table.l2]
    rw [if_pos a1, if_pos a2, if_pos a3, if_pos a4, hr, if_pos a5, rd_cels _ c h1, rd_ints _ c h2, hcell k types[c] a6 htc.1 htc.2]
    simp only [Option.bind_some]
    by_cases ec : rows[i][c].f0 = types[c]
    · rw [if_pos ec]
      by_cases ez : (cellT rows[i][c] d).2 = 0
      · have hs := line_step d rows[i] types c _ (Prod.ext rfl hz) h1 h2 ec ez
        rw [if_pos ez, if_pos hll, wc]
        have := ih (c + 1) k kk (by omega) hkk (by omega) (by rw [hs])
        rw [hs] at this
        exact this
      · have hb := line_bad d _ ez rows[i] types c _ (Prod.ext rfl hz) h1 h2 (.inr ⟨ec, rfl⟩)
        rw [if_neg ez, hb, if_neg ez]
    · have hb := line_bad d 140 (by decide) rows[i] types c _ (Prod.ext rfl hz) h1 h2 (.inl ⟨ec, rfl⟩)
      rw [if_neg ec, hb]
      rfl
/-- The rows' walk. -/
theorem rows_loop (types : List Int) (hn : types.length ≤ 1048576) (ht : types.all typeOk = true) (d : Int) (hd0 : 0 ≤ d) (hd6 : d ≤ 6) (rows : List (List Cel)) (hin : CellsIn rows) (hn2 : rows.length ≤ 1048576) (right : List Bool) (B C : Nat) (hB : 1078576 ≤ B) (hC : C = types.length + 2) (R : ByteArray × Int)
    (hgood : (linesOut d types rows).2 = 0 → ∀ k, B ≤ k → ((QT.daybookref17_Grid.f k (linesOut d types rows).1 right).bind fun t => some (t, 0)) = some R)
    (hbad : (linesOut d types rows).2 ≠ 0 → R = (⟨#[]⟩, (linesOut d types rows).2)) (m : Nat) : ∀ (i k : Nat), i + m = rows.length → m * C + B < k → (linesOut d types (rows.take i)).2 = 0 →
    QS.daybookref17_Table.l1 k d right (linesOut d types (rows.take i)).1 (i : Int) types rows = some R := by
  induction m with
  | zero =>
    intro i k hi hk hz
    obtain ⟨k, rfl⟩ : ∃ j, k = j + 1 := ⟨k - 1, by omega⟩
    have : rows.take i = rows := List.take_of_length_le (by omega)
    rw [this] at hz ⊢
    simp only [QS.daybookref17_Table.l1]
    rw [if_neg (by omega)]
    exact hgood hz k (by omega)
  | succ m ih =>
    intro i k hi hk hz
    rw [Nat.succ_mul] at hk
    obtain ⟨k, rfl⟩ : ∃ j, k = j + 1 := ⟨k - 1, by omega⟩
    have hlt : i < rows.length := by omega
    simp only [QS.daybookref17_Table.l1]
    rw [if_pos (by omega), if_pos (by omega), rd_crows rows i hlt]
    by_cases hl : rows[i].length = types.length
    · rw [if_pos (by omega)]
      obtain ⟨kk, rfl⟩ : ∃ kk, k = kk + types.length + 1 := ⟨k - types.length - 1, by omega⟩
      have hx8 : (linesOut d types (rows.take i)).1.length ≤ 1048576 := by have := lines_count d types (rows.take i); have := List.length_take_le i rows; omega
      have hrow := row_loop types hn ht d hd0 hd6 rows hin hn2 (linesOut d types (rows.take i)).1 hx8 i hlt hl right types.length 0 (kk + types.length + 1) kk (by omega) (by omega) rfl (by simp [lineOut])
      have e0 : (lineOut d (rows[i].take 0) (types.take 0)).1 = [] := by simp [lineOut]
      rw [e0, show ((0 : Nat) : Int) = 0 from rfl] at hrow
      rw [hrow]
      by_cases ez : (lineOut d rows[i] types).2 = 0
      · have hs := lines_step d types rows i _ _ (Prod.ext rfl hz) hlt hl (Prod.ext rfl ez)
        rw [if_pos ez]
        have := ih (i + 1) kk (by omega) (by omega) (by rw [hs])
        rw [hs] at this
        exact this
      · have hb := lines_bad d types _ ez rows i _ (Prod.ext rfl hz) hlt (.inr ⟨hl, rfl⟩)
        rw [if_neg ez, hbad (by rw [hb]; exact ez), hb]
    · have hb := lines_bad d types 140 (by decide) rows i _ (Prod.ext rfl hz) hlt (.inl ⟨hl, rfl⟩)
      rw [if_neg (by omega), hbad (by rw [hb]; decide), hb]
/-! ### the grid -/
theorem line_texts (d : Int) (hd0 : 0 ≤ d) (hd6 : d ≤ 6) : ∀ (cs : List Cel) (ts : List Int), (∀ c ∈ cs, isI64 c.f1 ∧ c.f2.size ≤ 1048576) → ∀ x ∈ (lineOut d cs ts).1, x.size ≤ 1048700
  | [], _, _, x, hx => by simp [lineOut] at hx
  | _ :: _, [], _, x, hx => by simp [lineOut] at hx
  | c :: cs, t :: ts, h, x, hx => by
    rw [lineOut] at hx
    by_cases e : c.f0 = t
    · rw [if_pos e] at hx
      by_cases z : (cellT c d).2 = 0
      · rw [if_pos z] at hx
        rcases List.mem_cons.1 hx with rfl | hx
        · exact (cellT_fits hd0 hd6 (h c (by simp))).1
        · exact line_texts d hd0 hd6 cs ts (fun c hc => h c (by simp [hc])) x hx
      · rw [if_neg z] at hx; simp at hx
    · rw [if_neg e] at hx; simp at hx
theorem lines_texts (d : Int) (hd0 : 0 ≤ d) (hd6 : d ≤ 6) (types : List Int) : ∀ (rs : List (List Cel)), CellsIn rs → ∀ r ∈ (linesOut d types rs).1, ∀ x ∈ r, x.size ≤ 1048700
  | [], _, r, hr, _, _ => by simp [linesOut] at hr
  | y :: rs, h, r, hr, x, hx => by
    rw [linesOut] at hr
    by_cases e : y.length = types.length
    · rw [if_pos e] at hr
      by_cases z : (lineOut d y types).2 = 0
      · rw [if_pos z] at hr
        rcases List.mem_cons.1 hr with rfl | hr
        · exact line_texts d hd0 hd6 y types (h y (by simp)) x hx
        · exact lines_texts d hd0 hd6 types rs (fun r hr => h r (by simp [hr])) r hr x hx
      · rw [if_neg z] at hr; simp at hr
    · rw [if_neg e] at hr; simp at hr
theorem lines_all (d : Int) (types : List Int) : ∀ (rs : List (List Cel)), (linesOut d types rs).2 = 0 → (linesOut d types rs).1.length = rs.length ∧ ∀ r ∈ rs, r.length = types.length
  | [], _ => by simp [linesOut]
  | y :: rs, h => by
    rw [linesOut] at h ⊢
    by_cases e : y.length = types.length
    · rw [if_pos e] at h ⊢
      by_cases z : (lineOut d y types).2 = 0
      · rw [if_pos z] at h ⊢
        obtain ⟨h1, h2⟩ := lines_all d types rs h
        refine ⟨by simp [h1], fun r hr => ?_⟩
        rcases List.mem_cons.1 hr with rfl | hr
        · exact e
        · exact h2 r hr
      · rw [if_neg z] at h; exact absurd h z
    · rw [if_neg e] at h; exact absurd h (by decide)
/-- What bounds a table: rows times columns. -/
structure TableFits (types : List Int) (rows : List (List Cel)) : Prop where
  cols : types.length ≤ 1048576
  nrows : rows.length ≤ 1048576
  row : ∀ r ∈ rows, r.length ≤ 262143
  all : (∀ r ∈ rows, r.length = types.length) → rows.length * types.length ≤ 1048576
  cells : CellsIn rows
theorem area {a b : Nat} (h : a * b ≤ 1048576) (ha : a ≤ 1048576) : a * (b * 4194306 + 1) ≤ 70368744177664 := by
  have h2 : a * (b * 4194306 + 1) = a * b * 4194306 + a := by rw [Nat.mul_add, Nat.mul_assoc, Nat.mul_one]
  have h3 : a * b * 4194306 ≤ 1048576 * 4194306 := Nat.mul_le_mul_right _ h
  omega
theorem table_fits {types : List Int} {rows : List (List Cel)} {d : Int} (hf : TableFits types rows) (hd0 : 0 ≤ d) (hd6 : d ≤ 6) (hz : (linesOut d types rows).2 = 0) : GridFits (rightOf types) (linesOut d types rows).1 := by
  obtain ⟨h1, h2⟩ := lines_all d types rows hz
  have htx := lines_texts d hd0 hd6 types rows hf.cells
  have hr := hf.nrows
  have hc := hf.cols
  refine ⟨by omega, fun r hr => by rw [lines_rows d types rows r hr]; omega, fun c => Nat.le_trans (wid_le htx c) (by decide), fun k => ?_⟩
  refine Nat.le_trans (gridTo_length (M := types.length) htx (by decide) (fun r hr => Nat.le_of_eq (lines_rows d types rows r hr)) k) ?_
  rw [h1]
  exact area (hf.all h2) hr
theorem rights_at (types : List Int) (c : Nat) (h : c < types.length) : rdOf false (rights types) (c : Int) = rightOf types c := by
  unfold rdOf rights rightOf
  simp [List.getD_eq_getElem?_getD, List.getElem?_eq_getElem h]
theorem table_grid {types : List Int} {rows : List (List Cel)} {d : Int} (hf : TableFits types rows) (hd0 : 0 ≤ d) (hd6 : d ≤ 6) (hz : (linesOut d types rows).2 = 0) : ∃ B, ∀ k, B ≤ k →
    QT.daybookref17_Grid.f k (linesOut d types rows).1 (rights types) = some ⟨(gridText (rightOf types) (linesOut d types rows).1).toArray⟩ := by
  obtain ⟨h1, h2⟩ := lines_all d types rows hz
  have htx := lines_texts d hd0 hd6 types rows hf.cells
  have hr := hf.nrows
  obtain ⟨n, hn, hnt, h3⟩ : ∃ n, n ≤ 262143 ∧ n ≤ types.length ∧ ∀ r ∈ (linesOut d types rows).1, r.length = n := by
    cases rows with
    | nil => exact ⟨0, by decide, Nat.zero_le _, fun r hr => by simp [linesOut] at hr⟩
    | cons x rs => exact ⟨types.length, by have := hf.row x (by simp); have := h2 x (by simp); omega, Nat.le_refl _, lines_rows d types _⟩
  have hT : (linesOut d types rows).1.length * (n * 4194306 + 1) ≤ 70368744177664 := by
    rw [h1]
    have h5 : n * 4194306 + 1 ≤ types.length * 4194306 + 1 := Nat.succ_le_succ (Nat.mul_le_mul_right 4194306 hnt)
    exact Nat.le_trans (Nat.mul_le_mul_left rows.length h5) (area (hf.all h2) hr)
  refine ⟨(linesOut d types rows).1.length * (n * 4194306 + 2 * n + 100) + (linesOut d types rows).1.length + 4194401, fun k hk => ?_⟩
  exact grid_someN (rightOf types) (rights types) n hn (fun c hc => by unfold rights; rw [List.length_map]; omega) (fun c hc => rights_at types c (by omega)) _ (by omega) (fun c => Nat.le_trans (wid_le htx c) (by decide)) h3 hT k (by omega)
theorem table_ref {types : List Int} {rows : List (List Cel)} (hf : TableFits types rows) (d : Int) : ∃ K, ∀ k, K ≤ k → QS.daybookref17_Table.f k types rows d = some (tableOut types rows d) := by
  by_cases hd : 0 ≤ d ∧ d ≤ 6
  · have hO : tableOut types rows d = if types.all typeOk = true then (if (linesOut d types rows).2 = 0 then (⟨(gridText (rightOf types) (linesOut d types rows).1).toArray⟩, 0) else (⟨#[]⟩, (linesOut d types rows).2)) else (⟨#[]⟩, 140) := by
      unfold tableOut; rw [if_pos hd]
    obtain ⟨G, hG⟩ : ∃ G, (linesOut d types rows).2 = 0 → ∀ k, G ≤ k → QT.daybookref17_Grid.f k (linesOut d types rows).1 (rights types) = some ⟨(gridText (rightOf types) (linesOut d types rows).1).toArray⟩ := by
      by_cases hz : (linesOut d types rows).2 = 0
      · obtain ⟨B, hB⟩ := table_grid hf hd.1 hd.2 hz
        exact ⟨B, fun _ => hB⟩
      · exact ⟨0, fun h => absurd h hz⟩
    obtain ⟨B, hBd⟩ : ∃ B, B = G + 1078576 := ⟨_, rfl⟩
    obtain ⟨B2, hB2⟩ : ∃ B2, B2 = rows.length * (types.length + 2) + B + 1 := ⟨_, rfl⟩
    refine ⟨types.length + B2 + 1, fun k hk => ?_⟩
    unfold QS.daybookref17_Table.f
    rw [show QT.daybookref17_digits.f d = some true by unfold QT.daybookref17_digits.f; rw [if_pos hd.1, decide_eq_true hd.2]]
    simp only [Option.bind_some, if_true]
    have := types_loop types hf.cols d rows B2 (tableOut types rows d) (fun ht k hk => ?_) (fun ht => by rw [hO, if_neg (by rw [ht]; decide)]) types.length 0 k (by omega) (by omega) (by simp)
    · have e0 : rights (types.take 0) = [] := by simp [rights]
      rw [e0, show ((0 : Nat) : Int) = 0 from rfl] at this
      exact this
    · have hr := rows_loop types hf.cols ht d hd.1 hd.2 rows hf.cells hf.nrows (rights types) B (types.length + 2) (by omega) rfl (tableOut types rows d)
        (fun hz k hk => by rw [hG hz k (by omega), hO, if_pos ht, if_pos hz]; rfl) (fun hz => by rw [hO, if_pos ht, if_neg hz]) rows.length 0 k (by omega) (by omega) (by simp [linesOut])
      have e0 : (linesOut d types (rows.take 0)).1 = [] := by simp [linesOut]
      rw [e0, show ((0 : Nat) : Int) = 0 from rfl] at hr
      exact hr
  · refine ⟨0, fun k _ => ?_⟩
    unfold QS.daybookref17_Table.f tableOut
    rw [if_neg hd]
    have : QT.daybookref17_digits.f d = some false := by
      unfold QT.daybookref17_digits.f
      by_cases h0 : d ≥ 0
      · rw [if_pos h0, decide_eq_false (by omega)]
      · rw [if_neg h0]
    rw [this]
    rfl
end Go.Proofs.YtmimninicegjcaaGreatDoor


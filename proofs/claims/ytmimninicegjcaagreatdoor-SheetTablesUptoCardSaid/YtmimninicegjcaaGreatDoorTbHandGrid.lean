/- sheet.grid: rows of cells as lines. -/
import Derived.Outline
import Derived.Test.YtmimninicegjcaaGreatDoorTbLeafC
import Derived.Test.YtmimninicegjcaaGreatDoorTbLeafE
import Derived.Test.YtmimninicegjcaaGreatDoorTbQT3
namespace Go.Proofs.YtmimninicegjcaaGreatDoor
open Go.RowKit Go.Shelf Go.Lib Go.Proofs.YtmimninicegjcaaGreatDoorW.PrintWords Go.Proofs.YtmimninicegjcaaGreatDoorW.PrintLast Go.Proofs.YtmimninicegjcaaGreatDoorW.PrintMore
set_option linter.unusedVariables false
set_option linter.unusedSimpArgs false

/-! ### the plain functions -/
def sizeAt (r : List ByteArray) (c : Nat) : Nat := match r[c]? with | some x => x.size | none => 0
/-- A column's width. -/
def wid (rows : List (List ByteArray)) (c : Nat) : Nat := rows.foldl (fun m r => max m (sizeAt r c)) 0
theorem width_loop (l : List (List ByteArray)) (c : Nat) (hl : l.length ≤ 1099511627776) (d : Nat) : ∀ (i k m : Nat), i + d = l.length → d < k →
    QT.sheet_width_string.l0 k (c : Int) (m : Int) l (l.length : Int) (i : Int) = some (((l.drop i).foldl (fun m r => max m (sizeAt r c)) m : Nat) : Int) := by
  induction d with
  | zero =>
    intro i k m hi hk
    obtain ⟨k, rfl⟩ : ∃ m, k = m + 1 := ⟨k - 1, by omega⟩
    simp only [QT.sheet_width_string.l0]
    rw [if_neg (by omega), List.drop_of_length_le (by omega)]
    rfl
  | succ d ih =>
    intro i k m hi hk
    obtain ⟨k, rfl⟩ : ∃ m, k = m + 1 := ⟨k - 1, by omega⟩
    simp only [QT.sheet_width_string.l0]
    have hlt : i < l.length := by omega
    rw [if_pos (by omega), if_pos (by omega), if_pos (by omega), show wrap64 ((i : Int) + 1) = ((i + 1 : Nat) : Int) by unfold wrap64; omega]
    rw [List.drop_eq_getElem_cons hlt, List.foldl_cons]
    have e : QT.rd_L4 l (i : Int) = l[i] := by simp [QT.rd_L4, List.getD_eq_getElem?_getD, List.getElem?_eq_getElem hlt]
    rw [e]
    by_cases hc : c < l[i].length
    · rw [if_pos (by omega), if_pos (by omega)]
      have e2 : (rdOf ByteArray.empty l[i] (c : Int)).size = sizeAt l[i] c := by simp [rdOf, sizeAt, List.getD_eq_getElem?_getD, List.getElem?_eq_getElem hc]
      rw [e2, show mx (m : Int) ((sizeAt l[i] c : Nat) : Int) = ((max m (sizeAt l[i] c) : Nat) : Int) by unfold mx; split <;> omega]
      exact ih (i + 1) k _ (by omega) (by omega)
    · rw [if_neg (by omega), ih (i + 1) k m (by omega) (by omega)]
      have e2 : sizeAt l[i] c = 0 := by simp [sizeAt, List.getElem?_eq_none (Nat.not_lt.1 hc)]
      rw [e2, Nat.max_zero]
theorem width_some (l : List (List ByteArray)) (c : Nat) (hl : l.length ≤ 1099511627776) : QT.sheet_width_string.f (l.length + 1) l (c : Int) = some (wid l c : Int) :=
  width_loop l c hl l.length 0 (l.length + 1) 0 (by omega) (by omega)
/-- The longest row's length. -/
def longest (rows : List (List ByteArray)) : Nat := rows.foldl (fun m r => max m r.length) 0
theorem longest_snoc (l : List (List ByteArray)) (r : List ByteArray) : longest (l ++ [r]) = max (longest l) r.length := by simp [longest]
def piece (R : Nat → Bool) (W : Nat → Nat) (c : Nat) (x : ByteArray) : List UInt8 :=
  (if 0 < c then [32, 32] else []) ++ (if R c = true then List.replicate (W c - x.size) 32 ++ x.data.toList else x.data.toList ++ List.replicate (W c - x.size) 32)
/-- A row's first cells, one behind the other. -/
def lineTo (R : Nat → Bool) (W : Nat → Nat) (row : List ByteArray) (k : Nat) : List UInt8 := ((row.take k).zipIdx.map fun p => piece R W p.2 p.1).flatten
theorem lineTo_succ (R : Nat → Bool) (W : Nat → Nat) (row : List ByteArray) (k : Nat) (h : k < row.length) : lineTo R W row (k + 1) = lineTo R W row k ++ piece R W k row[k] := by
  unfold lineTo
  rw [List.take_succ_eq_append_getElem h, List.zipIdx_append, List.map_append, List.flatten_append]
  simp [Nat.min_eq_left (Nat.le_of_lt h)]
def lineText (R : Nat → Bool) (W : Nat → Nat) (row : List ByteArray) : List UInt8 := Lib.trimRightB (lineTo R W row row.length) 32 ++ [10]
def gridTo (R : Nat → Bool) (rows : List (List ByteArray)) (k : Nat) : List UInt8 := ((rows.take k).map fun r => lineText R (wid rows) r).flatten
def gridText (R : Nat → Bool) (rows : List (List ByteArray)) : List UInt8 := gridTo R rows rows.length
theorem gridTo_succ (R : Nat → Bool) (rows : List (List ByteArray)) (k : Nat) (h : k < rows.length) : gridTo R rows (k + 1) = gridTo R rows k ++ lineText R (wid rows) rows[k] := by
  unfold gridTo
  rw [List.take_succ_eq_append_getElem h, List.map_append, List.flatten_append]
  simp

/-! ### reading -/
theorem rows_at {w : World} {A : Option Addr} {l : List (List ByteArray)} (h : Kd.C (Kd.slice 9 Kd.string) w A l.length l) :
    (l = [] ∨ ∃ ad, A = some ad) ∧ ∀ ad, A = some ad → ∀ i (hi : i < l.length), ∃ A' c', w.cell? (ad.add i) = some (.slice A' l[i].length c') ∧ l[i].length ≤ c' ∧ Kd.C Kd.string w A' l[i].length l[i] := by
  obtain ⟨h1, h2, h3⟩ := h
  refine ⟨?_, fun ad e i hi => ?_⟩
  · cases l with
    | nil => exact .inl rfl
    | cons x l => obtain ⟨ad, e, _⟩ := h3 (by simp); exact .inr ⟨ad, e⟩
  · obtain ⟨ad', e', hc⟩ := h3 (by omega)
    rw [e] at e'
    obtain rfl := Option.some.inj e'
    obtain ⟨c, hl, ⟨A', c', rfl, hl', hC⟩, hcell⟩ := hc i l[i] (List.getElem?_eq_getElem hi)
    have := hcell 0 _ rfl
    exact ⟨A', c', by simpa [Kd.slice] using this, hl', hC⟩
theorem strs_at {w : World} {A : Option Addr} {l : List ByteArray} (h : Kd.C Kd.string w A l.length l) :
    (l = [] ∨ ∃ ad, A = some ad) ∧ ∀ ad, A = some ad → ∀ i (hi : i < l.length), w.cell? (ad.add i) = some (.string l[i]) := by
  refine ⟨?_, fun ad e i hi => ?_⟩
  · cases l with
    | nil => exact .inl rfl
    | cons x l => obtain ⟨ad, e, _⟩ := Kd.at_string h 0 (by omega) (by simp); exact .inr ⟨ad, e⟩
  · obtain ⟨ad', e', hc⟩ := Kd.at_string h (i : Int) (by omega) (by omega)
    rw [e] at e'
    obtain rfl := Option.some.inj e'
    rw [Int.toNat_natCast] at hc
    rw [hc]
    simp [rdOf, List.getD_eq_getElem?_getD, List.getElem?_eq_getElem hi]
theorem info_int : (Tryz.prog.info? 3).map (fun i => (i.zero, i.size, i.bytes)) = some (some (.int .i64 0), 1, 8) := by kernel_rfl
/-- The first columns' widths. -/
def widths (l : List (List ByteArray)) (n : Nat) : List Int := (List.range n).map fun c => (wid l c : Int)
theorem widths_succ (l : List (List ByteArray)) (n : Nat) : widths l (n + 1) = widths l n ++ [(wid l n : Int)] := by simp [widths, List.range_succ]
theorem widths_length (l : List (List ByteArray)) (n : Nat) : (widths l n).length = n := by simp [widths]

theorem sizeAt_le (l : List (List ByteArray)) (r : List ByteArray) (hr : r ∈ l) (c : Nat) : sizeAt r c ≤ wid l c := by
  have key : ∀ (m : List (List ByteArray)) (n : Nat), n ≤ m.foldl (fun m r => max m (sizeAt r c)) n ∧ ∀ r ∈ m, sizeAt r c ≤ m.foldl (fun m r => max m (sizeAt r c)) n := by
    intro m
    induction m with
    | nil => exact fun n => ⟨Nat.le_refl _, by simp⟩
    | cons x m ih =>
      intro n
      rw [List.foldl_cons]
      obtain ⟨h1, h2⟩ := ih (max n (sizeAt x c))
      refine ⟨by omega, fun r hr => ?_⟩
      rcases List.mem_cons.1 hr with rfl | hr
      · omega
      · exact h2 r hr
  exact (key l 0).2 r hr
theorem piece_length (R : Nat → Bool) (W : Nat → Nat) (c : Nat) (x : ByteArray) (h : x.size ≤ W c) : (piece R W c x).length ≤ W c + 2 := by
  unfold piece
  have hx : x.data.toList.length = x.size := by simp
  split <;> split <;> simp [hx] <;> omega
theorem lineTo_length (R : Nat → Bool) (W : Nat → Nat) (row : List ByteArray) (hW : ∀ c, W c ≤ 4194304) (hx : ∀ c (h : c < row.length), row[c].size ≤ W c) (k : Nat) (hk : k ≤ row.length) : (lineTo R W row k).length ≤ k * 4194306 := by
  induction k with
  | zero => simp [lineTo]
  | succ k ih =>
    rw [lineTo_succ R W row k hk, List.length_append]
    have h1 := ih (by omega)
    have h2 := piece_length R W k row[k] (hx k hk)
    have h3 := hW k
    omega
theorem longest_le (l : List (List ByteArray)) (r : List ByteArray) (hr : r ∈ l) : r.length ≤ longest l := by
  have key : ∀ (m : List (List ByteArray)) (n : Nat), n ≤ m.foldl (fun m r => max m r.length) n ∧ ∀ r ∈ m, r.length ≤ m.foldl (fun m r => max m r.length) n := by
    intro m
    induction m with
    | nil => exact fun n => ⟨Nat.le_refl _, by simp⟩
    | cons x m ih =>
      intro n
      rw [List.foldl_cons]
      obtain ⟨h1, h2⟩ := ih (max n x.length)
      refine ⟨by omega, fun r hr => ?_⟩
      rcases List.mem_cons.1 hr with rfl | hr
      · omega
      · exact h2 r hr
  exact (key l 0).2 r hr
theorem widths_cell {W : World} {base lo c : Nat} {A : Option Addr} {l : List (List ByteArray)} (h : W.ownsRow base 3 1 (.slice A lo c) (widths l lo).length (nums .i64 (widths l lo))) (j : Nat) (hj : j < lo) :
    ∃ ad, A = some ad ∧ W.cell? (ad.add j) = some (.int .i64 (wid l j : Int)) := by
  obtain ⟨A', c', e, hr⟩ := own_reads h
  rw [widths_length] at e hr
  cases e
  obtain ⟨ad, e, hc⟩ := hr.at_ (j : Int) (by omega) (by omega)
  refine ⟨ad, e, ?_⟩
  rw [Int.toNat_natCast] at hc
  rw [hc]
  simp [rd, widths, List.getD_eq_getElem?_getD, hj]
def blanksB (n : Nat) : ByteArray := ⟨(Lib.repeatL [32] n).toArray⟩
theorem Repeat_blank (k : Nat) (hk : k ≤ 1099511627776) : L_Repeat.f ⟨#[32]⟩ (k : Int) = some (blanksB k) := by
  unfold L_Repeat.f blanksB
  have h1 : (⟨#[32]⟩ : ByteArray).size ≤ 64 := by decide
  have h2 : (k : Int) ≤ 1099511627776 := by omega
  rw [if_pos ⟨Int.natCast_nonneg k, h2, h1⟩, Int.toNat_natCast]
theorem blanksB_data (n : Nat) : (blanksB n).data.toList = List.replicate n 32 := by
  have := Lib.repeatL_replicate 32 1 n
  simpa [blanksB] using this
theorem blanksB_size (n : Nat) : (blanksB n).size = n := by
  have h : (blanksB n).data.toList.length = n := by rw [blanksB_data, List.length_replicate]
  simpa using h

set_option maxHeartbeats 4000000 in
set_option maxRecDepth 100000 in
theorem grid_callsL (A0 : Option Addr) (c0 : Nat) (l0 : List (List ByteArray)) (fR : FuncId) (q : Nat) (R : Nat → Bool) (w : World)
    (hr0 : Kd.C (Kd.slice 9 Kd.string) w A0 l0.length l0) (hc0 : l0.length ≤ c0) (hN : l0.length ≤ 4194304) (hM : ∀ r ∈ l0, r.length ≤ 4194304) (hW : ∀ c, wid l0 c ≤ 4194304) (hG : ∀ k, (gridTo R l0 k).length ≤ 70368744177664)
    (hE : ∀ args W, (callFunc fR args).run Tryz.prog W = .ok (.enter fR args) W)
    (hR : ∀ (c : Nat) (W : World), c < longest l0 → Below w.heap.size w W → Calls Tryz.prog fR #[.int .i64 (c : Int), .pointer (some ⟨q, 0, none⟩)] W fun e W' => e = .returned (.bool (R c)) ∧ W = W') :
    Calls Tryz.prog 46 #[.slice A0 l0.length c0, .func (.func fR) #[] #[.pointer (some ⟨q, 0, none⟩)]] w fun e w' =>
      e = .returned (.string ⟨(gridText R l0).toArray⟩) ∧ Below w.heap.size w w' := by
  have HR0 := Aside0.mk hr0
  have HN := Aside0.mk hN
  have HCL := Aside0.mk hc0
  have HM := Aside0.mk hM
  have HW := Aside0.mk hW
  have HG := Aside0.mk hG
  have HRR := Aside0.mk hR
  have HRD := Aside0.mk (rows_at hr0)
  clear hr0 hM hW hG hR hc0
  have i0 : (l0.length : Int) ≤ 4194304 := by omega
  clear hN
  go_enter Tryz.func46, Tryz.ntmps46
  go_wp2
  go_loopw [5, 18] (fun v5 v18 wr => ∃ k : Nat, v18 = .int .i64 k ∧ k ≤ l0.length ∧ Aside0 (wr.ownsRow w.heap.size 3 1 v5 (widths l0 (longest (l0.take k))).length (nums .i64 (widths l0 (longest (l0.take k))))) ∧ Aside0 (Below w.heap.size w wr)) (fun _ v _ => l0.length - (RowKit.intOf v).toNat)
  case atStart => exact ⟨0, rfl, Nat.zero_le _, ⟨own_nil w w.heap.size _ _⟩, ⟨Below.refl _ _⟩⟩
  case round =>
    obtain ⟨k, rfl, hk, HO, HB⟩ := hrel
    obtain ⟨A5, c5, hv5⟩ := own_slice HO.out
    rw [widths_length] at hv5
    subst hv5
    by_cases hlt : k < l0.length
    · obtain ⟨ad, rfl⟩ : ∃ ad, A0 = some ad := by
        rcases HRD.out.1 with h | h
        · subst h; simp at hlt
        · exact h
      obtain ⟨A', c', hcell, hl', hC'⟩ := (rows_at (Kd.C_below HR0.out HB.out)).2 ad rfl k hlt
      have hrow := HM.out l0[k] (List.getElem_mem hlt)
      have hls : longest (l0.take (k + 1)) = max (longest (l0.take k)) l0[k].length := by rw [List.take_succ_eq_append_getElem hlt, longest_snoc]
      generalize l0[k] = r at *
      have i1 : (r.length : Int) ≤ 4194304 := by omega
      have HLS := Aside0.mk hls
      have HC' := Aside0.mk hC'
      clear hls hC' hrow hl'
      obtain ⟨wo, hwo⟩ : ∃ x, x = wr := ⟨_, rfl⟩
      have HWO := Aside0.mk hwo
      clear hwo
      have hlong : longest (l0.take k) ≤ 4194304 := by
        have : ∀ m : List (List ByteArray), (∀ r ∈ m, r.length ≤ 4194304) → longest m ≤ 4194304 := fun m hm => by
          unfold longest
          suffices ∀ (n : Nat), n ≤ 4194304 → m.foldl (fun m r => max m r.length) n ≤ 4194304 from this 0 (by omega)
          induction m with
          | nil => exact fun n hn => hn
          | cons x m ih =>
            intro n hn
            rw [List.foldl_cons]
            exact ih (fun r hr => hm r (by simp [hr])) _ (by have := hm x (by simp); omega)
        exact this _ (fun r hr => HM.out r (List.mem_of_mem_take hr))
      obtain ⟨lo, hlo⟩ : ∃ x, longest (l0.take k) = x := ⟨_, rfl⟩
      rw [hlo]
      rw [hlo] at hlong HO
      have i2 : (lo : Int) ≤ 4194304 := by omega
      have HLO := Aside0.mk hlo
      clear hlong hlo
      go_wp2
      go_loopw [5, 8] (fun v5 v8 wr => ∃ c : Nat, v8 = .int .i64 c ∧ Aside0 (lo ≤ c ∧ c ≤ max lo r.length) ∧ Aside0 (wr.ownsRow w.heap.size 3 1 v5 (widths l0 c).length (nums .i64 (widths l0 c))) ∧ Aside0 (Below w.heap.size w wr)) (fun _ v _ => 4194304 - (RowKit.intOf v).toNat)
      case atStart => exact ⟨lo, rfl, ⟨by omega⟩, HO, HB⟩
      case round =>
        obtain ⟨c, rfl, hcb, HO2, HB2⟩ := hrel
        obtain ⟨A6, c6, hv6⟩ := own_slice HO2.out
        rw [widths_length] at hv6
        subst hv6
        have ic : (c : Int) ≤ 4194304 := by have := hcb.out; omega
        by_cases hlt2 : c < r.length
        · have i3 : (c : Int) < (r.length : Int) := by omega
          have HV := Aside0.mk (width_some l0 c (by omega))
          go_wp2_with fail
          refine (QT.sheet_width_string.calls _ _ _ l0 (c : Int) _ _ (Kd.C_below HR0.out HB2.out) HCL.out HV.out).mono ?_
          rintro e w2 ⟨rfl, hb2⟩
          have HO3 := Aside0.mk (pw_own_below HO2.out hb2)
          have HB3 := Aside0.mk (below_step HB2.out hb2)
          clear hb2
          go_wp2_with (at_builtin; refine print_append_num (w0 := w) w.heap.size rfl (.tmp 30) (.tmp 34) 33 3 .i64 8 rfl Tryz.underlying33 info_int (by decide) _ (widths l0 c) (wid l0 c : Int) rfl rfl ?aO ?aB ?aS ?aL ?_; (case aO => exact HO3.out); (case aB => exact HB3.out); (case aS => exact HB3.out.size); (case aL => rw [widths_length]; omega); intro v1 w3 hown hB1 hg hat; rw [← widths_succ] at hown; have HO4 := Aside0.mk hown; have HB4 := Aside0.mk hB1; clear hown hB1 hg hat)
          go_roundw
          case rel => exact ⟨c + 1, by go_num, ⟨by have := hcb.out; omega⟩, HO4, HB4⟩
          case measure => simp [RowKit.intOf]; omega
        · have i3 : (r.length : Int) ≤ (c : Int) := by omega
          go_wp2
          go_roundw
          case rel =>
            have ec : longest (l0.take (k + 1)) = c := by have h1 := HLS.out; rw [HLO.out] at h1; have := hcb.out; omega
            exact ⟨k + 1, by go_num, hlt, by rw [ec]; exact HO2, HB2⟩
          case measure => simp [RowKit.intOf]; omega
    · have hk' : k = l0.length := by omega
      subst hk'
      obtain ⟨lo, hlo⟩ : ∃ x, longest (l0.take l0.length) = x := ⟨_, rfl⟩
      rw [hlo] at HO
      rw [hlo]
      have HLO := Aside0.mk hlo
      clear hlo
      go_wp2
      obtain ⟨wo, rfl⟩ : ∃ wo : World, wo = wr := ⟨_, rfl⟩
      go_loopw [39] (fun v wr => ∃ k : Nat, v = .int .i64 k ∧ k ≤ l0.length ∧ Aside0 (Build wo.heap.size (gridTo R l0 k) wr) ∧ Aside0 (Below wo.heap.size wo wr)) (fun v _ => l0.length - (RowKit.intOf v).toNat)
      case atStart => exact ⟨0, rfl, Nat.zero_le _, ⟨Build.new wo⟩, ⟨below_alloc (Below.refl _ _) _⟩⟩
      case round =>
        obtain ⟨k, rfl, hk, HG1, HB1⟩ := hrel
        by_cases hlt : k < l0.length
        · obtain ⟨ad, rfl⟩ : ∃ ad, A0 = some ad := by
            rcases HRD.out.1 with h | h
            · subst h; simp at hlt
            · exact h
          have HBW := Aside0.mk (below_step HB.out HB1.out)
          obtain ⟨A', c', hcell, hl', hC'⟩ := (rows_at (Kd.C_below HR0.out HBW.out)).2 ad rfl k hlt
          have hrow := HM.out l0[k] (List.getElem_mem hlt)
          have hsz : ∀ c (h : c < l0[k].length), l0[k][c].size ≤ wid l0 c := fun c h => by
            have := sizeAt_le l0 l0[k] (List.getElem_mem hlt) c
            simpa [sizeAt, List.getElem?_eq_getElem h] using this
          have hgs := gridTo_succ R l0 k hlt
          have hlg : l0[k].length ≤ lo := by rw [← HLO.out, List.take_length]; exact longest_le l0 _ (List.getElem_mem hlt)
          generalize l0[k] = r at *
          have HSZ := Aside0.mk hsz
          have HGS := Aside0.mk hgs
          have HLG := Aside0.mk hlg
          have HC' := Aside0.mk hC'
          have i1 : (r.length : Int) ≤ 4194304 := by omega
          have HROW := Aside0.mk hrow
          clear hsz hgs hlg hC' hrow hl'
          go_wp2
          obtain ⟨wp, rfl⟩ : ∃ wp : World, wp = wr := ⟨_, rfl⟩
          go_loopw [45] (fun v wr => ∃ j : Nat, v = .int .i64 j ∧ j ≤ r.length ∧ Aside0 (Build wp.heap.size (lineTo R (wid l0) r j) wr) ∧ Aside0 (Below wp.heap.size wp wr)) (fun v _ => r.length - (RowKit.intOf v).toNat)
          case atStart => exact ⟨0, rfl, Nat.zero_le _, ⟨Build.new wp⟩, ⟨below_alloc (Below.refl _ _) _⟩⟩
          case round =>
            obtain ⟨j, rfl, hj, HL1, HB2⟩ := hrel
            have HBX := Aside0.mk (below_step HBW.out HB2.out)
            by_cases hlt2 : j < r.length
            · have i2 : (j : Int) < (r.length : Int) := by omega
              obtain ⟨hA', hS'⟩ := strs_at (Kd.C_below HC'.out HB2.out)
              obtain ⟨ad', rfl⟩ : ∃ ad, A' = some ad := by
                rcases hA' with h | h
                · subst h; simp at hlt2
                · exact h
              have hcell2 := hS' ad' rfl j hlt2
              have hx := HSZ.out j hlt2
              have hls := lineTo_succ R (wid l0) r j hlt2
              have hln := lineTo_length R (wid l0) r HW.out HSZ.out j (by omega)
              generalize r[j] = x at *
              have HLS := Aside0.mk hls
              have HLN := Aside0.mk hln
              have HX := Aside0.mk hx
              clear hA' hS' hls hln hx
              by_cases hj0 : 0 < j
              · have i3 : 0 < (j : Int) := by omega
                go_wp2_with fail
                refine (HL1.out.writeString ⟨#[32, 32]⟩ (by have := HLN.out; have := HROW.out; have e : (⟨#[32, 32]⟩ : ByteArray).size = 2 := rfl; rw [e]; omega)).mono ?_
                rintro e w4 ⟨rfl, hb4, hbl4⟩
                have HL2 := Aside0.mk hb4
                have HBQ := Aside0.mk (HB2.out.trans hbl4)
                clear hb4 hbl4
                have HBO := Aside0.mk (below_step HB1.out HBQ.out)
                have HBZ := Aside0.mk (below_step HB.out HBO.out)
                obtain ⟨adw, eA5, hwc⟩ := widths_cell (pw_own_below HO.out HBO.out) j (by have := HLG.out; omega)
                subst eA5
                have ilo : (j : Int) < (lo : Int) := by have := HLG.out; omega
                have hwj := HW.out j
                have hxs := HX.out
                obtain ⟨n, hn⟩ : ∃ n : Nat, wid l0 j = x.size + n := ⟨wid l0 j - x.size, by omega⟩
                have i6 : (wid l0 j : Int) - (x.size : Int) = (n : Int) := by omega
                have i7 : (x.size : Int) ≤ (wid l0 j : Int) := by omega
                have i8 : (wid l0 j : Int) ≤ 4194304 := by omega
                have HI6 := Aside0.mk i6
                have HREP := Aside0.mk (Repeat_blank n (by omega))
                have HN4 := Aside0.mk hn
                have hnn : n ≤ 4194304 := by omega
                have hxx : x.size ≤ 4194304 := by omega
                have HNN := Aside0.mk hnn
                have HXX := Aside0.mk hxx
                clear i6 hn hwj hxs hnn hxx
                go_wp2_with fail
                rw [HI6.out]
                clear i7 i8
                refine (L_Repeat.calls _ _ _ _ HREP.out).mono ?_
                rintro e w5 ⟨rfl, hb5⟩
                have HL3 := Aside0.mk (HL2.out.below hb5)
                have HBR := Aside0.mk (below_then HBQ.out (Nat.le_of_lt HL2.out.lt) hb5)
                clear hb5
                go_wp2_with fail
                refine (HRR.out j _ (by have h1_ := HLG.out; have h2_ := HLO.out; rw [List.take_length] at h2_; omega) (below_step HB.out (below_step HB1.out HBR.out))).mono ?_
                rintro e w6 ⟨rfl, rfl⟩
                by_cases hRj : R j = true
                · have HRJ := Aside0.mk hRj
                  rw [hRj]
                  clear hRj
                  go_wp2_with fail
                  refine (HL3.out.writeString (blanksB n) (by have := HLN.out; have := HROW.out; have := HNN.out; rw [blanksB_size]; simp; omega)).mono ?_
                  rintro e w7 ⟨rfl, hb7, hbl7⟩
                  have HL4 := Aside0.mk hb7
                  have HBS := Aside0.mk (HBR.out.trans hbl7)
                  clear hb7 hbl7
                  go_wp2_with fail
                  refine (HL4.out.writeString x (by have := HLN.out; have := HROW.out; have := HNN.out; have := HXX.out; rw [List.length_append, blanksB_data, List.length_replicate]; simp; omega)).mono ?_
                  rintro e w8 ⟨rfl, hb8, hbl8⟩
                  have HL5 := Aside0.mk hb8
                  have HBT := Aside0.mk (HBS.out.trans hbl8)
                  clear hb8 hbl8
                  go_wp2_with fail
                  go_roundw
                  case rel =>
                    refine ⟨j + 1, by go_num, hlt2, ⟨?_⟩, HBT⟩
                    have e : lineTo R (wid l0) r (j + 1) = lineTo R (wid l0) r j ++ (⟨#[32, 32]⟩ : ByteArray).data.toList ++ (blanksB n).data.toList ++ x.data.toList := by
                      rw [HLS.out, piece, if_pos hj0, if_pos HRJ.out, blanksB_data, show wid l0 j - x.size = n by have := HN4.out; omega]; simp
                    rw [e]
                    exact HL5.out
                  case measure => simp [RowKit.intOf]; omega
                · have hRj' : R j = false := by simpa using hRj
                  have HRJ := Aside0.mk hRj
                  rw [hRj']
                  clear hRj hRj'
                  go_wp2_with fail
                  refine (HL3.out.writeString x (by have := HLN.out; have := HROW.out; have := HNN.out; have := HXX.out; simp; omega)).mono ?_
                  rintro e w7 ⟨rfl, hb7, hbl7⟩
                  have HL4 := Aside0.mk hb7
                  have HBS := Aside0.mk (HBR.out.trans hbl7)
                  clear hb7 hbl7
                  go_wp2_with fail
                  refine (HL4.out.writeString (blanksB n) (by have := HLN.out; have := HROW.out; have := HNN.out; have := HXX.out; rw [blanksB_size]; simp; omega)).mono ?_
                  rintro e w8 ⟨rfl, hb8, hbl8⟩
                  have HL5 := Aside0.mk hb8
                  have HBT := Aside0.mk (HBS.out.trans hbl8)
                  clear hb8 hbl8
                  go_wp2_with fail
                  go_roundw
                  case rel =>
                    refine ⟨j + 1, by go_num, hlt2, ⟨?_⟩, HBT⟩
                    have e : lineTo R (wid l0) r (j + 1) = lineTo R (wid l0) r j ++ (⟨#[32, 32]⟩ : ByteArray).data.toList ++ x.data.toList ++ (blanksB n).data.toList := by
                      rw [HLS.out, piece, if_pos hj0, if_neg HRJ.out, blanksB_data, show wid l0 j - x.size = n by have := HN4.out; omega]; simp
                    rw [e]
                    exact HL5.out
                  case measure => simp [RowKit.intOf]; omega
              · have hj0' : j = 0 := by omega
                have HL2 := HL1
                have HBQ := HB2
                subst hj0'
                have i3 : (0 : Int) < (r.length : Int) := by omega
                have i9 : decide (0 < r.length) = true := decide_eq_true hlt2
                rw [show ((0 : Nat) : Int) = (0 : Int) from rfl]
                have az : ∀ z : Addr, z.add 0 = z := fun z => by unfold Addr.add; split <;> simp_all
                have hcell3 : wr.cell? ad' = some (.string x) := by have := hcell2; rwa [az] at this
                clear hj0
                have hj0 : ¬ 0 < 0 := by omega
                have HJ0 := Aside0.mk hj0
                clear hj0
                have HBO := Aside0.mk (below_step HB1.out HBQ.out)
                have HBZ := Aside0.mk (below_step HB.out HBO.out)
                obtain ⟨adw, eA5, hwc⟩ := widths_cell (pw_own_below HO.out HBO.out) 0 (by have := HLG.out; omega)
                subst eA5
                have hwc2 := hwc
                rw [az] at hwc2
                clear az
                have ilo : (0 : Int) < (lo : Int) := by have := HLG.out; omega
                have hwj := HW.out 0
                have hxs := HX.out
                obtain ⟨n, hn⟩ : ∃ n : Nat, wid l0 0 = x.size + n := ⟨wid l0 0 - x.size, by omega⟩
                have i6 : (wid l0 0 : Int) - (x.size : Int) = (n : Int) := by omega
                have i7 : (x.size : Int) ≤ (wid l0 0 : Int) := by omega
                have i8 : (wid l0 0 : Int) ≤ 4194304 := by omega
                have HI6 := Aside0.mk i6
                have HREP := Aside0.mk (Repeat_blank n (by omega))
                have HN4 := Aside0.mk hn
                have hnn : n ≤ 4194304 := by omega
                have hxx : x.size ≤ 4194304 := by omega
                have HNN := Aside0.mk hnn
                have HXX := Aside0.mk hxx
                clear i6 hn hwj hxs hnn hxx
                go_wp2_with fail
                rw [HI6.out]
                clear i7 i8
                refine (L_Repeat.calls _ _ _ _ HREP.out).mono ?_
                rintro e w5 ⟨rfl, hb5⟩
                have HL3 := Aside0.mk (HL2.out.below hb5)
                have HBR := Aside0.mk (below_then HBQ.out (Nat.le_of_lt HL2.out.lt) hb5)
                clear hb5
                go_wp2_with fail
                refine (HRR.out 0 _ (by have h1_ := HLG.out; have h2_ := HLO.out; rw [List.take_length] at h2_; omega) (below_step HB.out (below_step HB1.out HBR.out))).mono ?_
                rintro e w6 ⟨rfl, rfl⟩
                by_cases hRj : R 0 = true
                · have HRJ := Aside0.mk hRj
                  rw [hRj]
                  clear hRj
                  go_wp2_with fail
                  refine (HL3.out.writeString (blanksB n) (by have := HLN.out; have := HROW.out; have := HNN.out; rw [blanksB_size]; simp; omega)).mono ?_
                  rintro e w7 ⟨rfl, hb7, hbl7⟩
                  have HL4 := Aside0.mk hb7
                  have HBS := Aside0.mk (HBR.out.trans hbl7)
                  clear hb7 hbl7
                  go_wp2_with fail
                  refine (HL4.out.writeString x (by have := HLN.out; have := HROW.out; have := HNN.out; have := HXX.out; rw [List.length_append, blanksB_data, List.length_replicate]; simp; omega)).mono ?_
                  rintro e w8 ⟨rfl, hb8, hbl8⟩
                  have HL5 := Aside0.mk hb8
                  have HBT := Aside0.mk (HBS.out.trans hbl8)
                  clear hb8 hbl8
                  go_wp2_with fail
                  go_roundw
                  case rel =>
                    refine ⟨0 + 1, by first | rfl | go_num, hlt2, ⟨?_⟩, HBT⟩
                    have e : lineTo R (wid l0) r (0 + 1) = lineTo R (wid l0) r 0 ++ (blanksB n).data.toList ++ x.data.toList := by
                      rw [HLS.out, piece, if_neg HJ0.out, if_pos HRJ.out, blanksB_data, show wid l0 0 - x.size = n by have := HN4.out; omega]; simp
                    rw [e]
                    exact HL5.out
                  case measure => simp [RowKit.intOf]; omega
                · have hRj' : R 0 = false := by simpa using hRj
                  have HRJ := Aside0.mk hRj
                  rw [hRj']
                  clear hRj hRj'
                  go_wp2_with fail
                  refine (HL3.out.writeString x (by have := HLN.out; have := HROW.out; have := HNN.out; have := HXX.out; simp; omega)).mono ?_
                  rintro e w7 ⟨rfl, hb7, hbl7⟩
                  have HL4 := Aside0.mk hb7
                  have HBS := Aside0.mk (HBR.out.trans hbl7)
                  clear hb7 hbl7
                  go_wp2_with fail
                  refine (HL4.out.writeString (blanksB n) (by have := HLN.out; have := HROW.out; have := HNN.out; have := HXX.out; rw [blanksB_size]; simp; omega)).mono ?_
                  rintro e w8 ⟨rfl, hb8, hbl8⟩
                  have HL5 := Aside0.mk hb8
                  have HBT := Aside0.mk (HBS.out.trans hbl8)
                  clear hb8 hbl8
                  go_wp2_with fail
                  go_roundw
                  case rel =>
                    refine ⟨0 + 1, by first | rfl | go_num, hlt2, ⟨?_⟩, HBT⟩
                    have e : lineTo R (wid l0) r (0 + 1) = lineTo R (wid l0) r 0 ++ x.data.toList ++ (blanksB n).data.toList := by
                      rw [HLS.out, piece, if_neg HJ0.out, if_neg HRJ.out, blanksB_data, show wid l0 0 - x.size = n by have := HN4.out; omega]; simp
                    rw [e]
                    exact HL5.out
                  case measure => simp [RowKit.intOf]; omega
            · have hj' : j = r.length := by omega
              subst hj'
              have hln := lineTo_length R (wid l0) r HW.out HSZ.out r.length (Nat.le_refl _)
              have HLN := Aside0.mk hln
              clear hln
              go_wp2_with fail
              refine HL1.out.string.mono ?_
              rintro e w4 ⟨rfl, hb4⟩
              have HBQ := Aside0.mk (HB2.out.trans hb4)
              have HG2 := Aside0.mk (HG1.out.below HBQ.out)
              clear hb4
              go_wp2_with fail
              refine (Tryz.strings_TrimRight_one ⟨(lineTo R (wid l0) r r.length).toArray⟩ 32 (by decide) _ (by have := HLN.out; have := HROW.out; rw [mk_size]; simp; omega)).mono ?_
              rintro e w5 ⟨rfl, hw5⟩
              obtain rfl : w5 = w4 := hw5
              have htl : (⟨(lineTo R (wid l0) r r.length).toArray⟩ : ByteArray).data.toList = lineTo R (wid l0) r r.length := by simp
              rw [htl]
              clear htl
              have hgl := HG.out (k + 1)
              rw [HGS.out, List.length_append, lineText, List.length_append, List.length_singleton] at hgl
              obtain ⟨T, hT⟩ : ∃ T, Lib.trimRightB (lineTo R (wid l0) r r.length) 32 = T := ⟨_, rfl⟩
              rw [hT] at hgl
              rw [hT]
              have HT := Aside0.mk hT
              have HGL := Aside0.mk hgl
              clear hT hgl
              go_wp2_with fail
              refine (HG2.out.writeString ⟨T.toArray⟩ (by have := HGL.out; rw [mk_size]; simp; omega)).mono ?_
              rintro e w6 ⟨rfl, hb6, hbl6⟩
              have HG3 := Aside0.mk hb6
              have HBR := Aside0.mk ((below_step HB1.out HBQ.out).trans hbl6)
              clear hb6 hbl6
              go_wp2_with fail
              refine (HG3.out.writeByte 10 (by have := HGL.out; simp; omega)).mono ?_
              rintro e w7 ⟨rfl, hb7, hbl7⟩
              have HG4 := Aside0.mk hb7
              have HBS := Aside0.mk (HBR.out.trans hbl7)
              clear hb7 hbl7
              go_wp2_with fail
              go_roundw
              case rel =>
                refine ⟨k + 1, by go_num, hlt, ⟨?_⟩, HBS⟩
                rw [HGS.out, lineText, HT.out, ← List.append_assoc]
                simpa using HG4.out
              case measure => simp [RowKit.intOf]; omega
        · have hk' : k = l0.length := by omega
          subst hk'
          go_wp2_with fail
          refine HG1.out.string.mono ?_
          rintro e w4 ⟨rfl, hb4⟩
          have HBQ := Aside0.mk (below_step HB.out (HB1.out.trans hb4))
          clear hb4
          go_wp2_with fail
          go_ret
          exact ⟨rfl, HBQ.out⟩
theorem grid_calls (A0 : Option Addr) (c0 : Nat) (l0 : List (List ByteArray)) (fR : FuncId) (q : Nat) (R : Nat → Bool) (w : World)
    (hr0 : Kd.C (Kd.slice 9 Kd.string) w A0 l0.length l0) (hc0 : l0.length ≤ c0) (hN : l0.length ≤ 4194304) (hM : ∀ r ∈ l0, r.length ≤ 4194304) (hW : ∀ c, wid l0 c ≤ 4194304) (hG : ∀ k, (gridTo R l0 k).length ≤ 70368744177664)
    (hE : ∀ args W, (callFunc fR args).run Tryz.prog W = .ok (.enter fR args) W)
    (hR : ∀ (c : Nat) (W : World), Below w.heap.size w W → Calls Tryz.prog fR #[.int .i64 (c : Int), .pointer (some ⟨q, 0, none⟩)] W fun e W' => e = .returned (.bool (R c)) ∧ W = W') :
    Calls Tryz.prog 46 #[.slice A0 l0.length c0, .func (.func fR) #[] #[.pointer (some ⟨q, 0, none⟩)]] w fun e w' =>
      e = .returned (.string ⟨(gridText R l0).toArray⟩) ∧ Below w.heap.size w w' :=
  grid_callsL A0 c0 l0 fR q R w hr0 hc0 hN hM hW hG hE (fun c W _ h => hR c W h)
end Go.Proofs.YtmimninicegjcaaGreatDoor


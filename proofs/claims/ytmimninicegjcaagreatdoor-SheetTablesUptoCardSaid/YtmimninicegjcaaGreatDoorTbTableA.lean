/- sheet.Table: what it computes, in plain words; its closures. -/
import Derived.Test.YtmimninicegjcaaGreatDoorTbLeafC
import Derived.Test.YtmimninicegjcaaGreatDoorTbMTrialATrialB
import Derived.Test.YtmimninicegjcaaGreatDoorTbQS19
namespace Go.Proofs.YtmimninicegjcaaGreatDoor
open Go.RowKit Go.Shelf Go.Lib Go.Proofs.YtmimninicegjcaaGreatDoorW.PrintWords Go.Proofs.YtmimninicegjcaaGreatDoorW.PrintLast Go.Proofs.YtmimninicegjcaaGreatDoorW.PrintMore
set_option linter.unusedVariables false
set_option linter.unusedSimpArgs false
abbrev Cel := QS.S43
/-- A cell's text, and why it has none. -/
def cellT (c : Cel) (d : Int) : ByteArray × Int := (QS.sheet_cell.f (c.f2.size + 30000) c.f0 c.f1 c.f2 d).getD (⟨#[]⟩, 0)
/-- A row's texts up to its first fault, and that fault. -/
def lineOut (d : Int) : List Cel → List Int → List ByteArray × Int
  | c :: cs, t :: ts => if c.f0 = t then (if (cellT c d).2 = 0 then ((cellT c d).1 :: (lineOut d cs ts).1, (lineOut d cs ts).2) else ([], (cellT c d).2)) else ([], 140)
  | _, _ => ([], 0)
def linesOut (d : Int) (types : List Int) : List (List Cel) → List (List ByteArray) × Int
  | [] => ([], 0)
  | r :: rs => if r.length = types.length then (if (lineOut d r types).2 = 0 then ((lineOut d r types).1 :: (linesOut d types rs).1, (linesOut d types rs).2) else ([], (lineOut d r types).2)) else ([], 140)
def typeOk (t : Int) : Bool := decide (1 ≤ t ∧ t ≤ 5)
def rightOf (types : List Int) (c : Nat) : Bool := types.getD c 0 == 1 || types.getD c 0 == 5
def tableOut (types : List Int) (rows : List (List Cel)) (d : Int) : ByteArray × Int :=
  if 0 ≤ d ∧ d ≤ 6 then (if types.all typeOk = true then (if (linesOut d types rows).2 = 0 then (⟨(gridText (rightOf types) (linesOut d types rows).1).toArray⟩, 0) else (⟨#[]⟩, (linesOut d types rows).2)) else (⟨#[]⟩, 140)) else (⟨#[]⟩, 1)
theorem line_step (d : Int) : ∀ (cs : List Cel) (ts : List Int) (i : Nat) (x : List ByteArray), lineOut d (cs.take i) (ts.take i) = (x, 0) → ∀ (h1 : i < cs.length) (h2 : i < ts.length), cs[i].f0 = ts[i] → (cellT cs[i] d).2 = 0 →
    lineOut d (cs.take (i + 1)) (ts.take (i + 1)) = (x ++ [(cellT cs[i] d).1], 0)
  | c :: cs, t :: ts, 0, x, h, _, _, he, hz => by
    simp only [List.take_zero, lineOut, Prod.mk.injEq] at h
    obtain ⟨rfl, -⟩ := h
    simp only [List.getElem_cons_zero] at he hz
    simp [lineOut, he, hz]
  | c :: cs, t :: ts, i + 1, x, h, h1, h2, he, hz => by
    simp only [List.take_succ_cons, lineOut] at h
    by_cases e : c.f0 = t
    · rw [if_pos e] at h
      by_cases z : (cellT c d).2 = 0
      · rw [if_pos z] at h
        simp only [Prod.mk.injEq] at h
        obtain ⟨rfl, h0⟩ := h
        have := line_step d cs ts i (lineOut d (cs.take i) (ts.take i)).1 (Prod.ext rfl h0) (by simpa using h1) (by simpa using h2) (by simpa using he) (by simpa using hz)
        rw [List.take_succ_cons, List.take_succ_cons, lineOut, if_pos e, if_pos z, this]
        simp
      · rw [if_neg z] at h
        simp only [Prod.mk.injEq] at h
        exact absurd h.2 z
    · rw [if_neg e] at h
      simp only [Prod.mk.injEq] at h
      exact absurd h.2 (by decide)
theorem line_bad (d : Int) (e : Int) (he : e ≠ 0) : ∀ (cs : List Cel) (ts : List Int) (i : Nat) (x : List ByteArray), lineOut d (cs.take i) (ts.take i) = (x, 0) → ∀ (h1 : i < cs.length) (h2 : i < ts.length),
    (cs[i].f0 ≠ ts[i] ∧ e = 140) ∨ (cs[i].f0 = ts[i] ∧ (cellT cs[i] d).2 = e) → (lineOut d cs ts).2 = e
  | c :: cs, t :: ts, 0, x, h, _, _, hb => by
    simp only [List.getElem_cons_zero] at hb
    rw [lineOut]
    rcases hb with ⟨h1, h2⟩ | ⟨h1, h2⟩
    · rw [if_neg h1, h2]
    · rw [if_pos h1, if_neg (by omega)]; exact h2
  | c :: cs, t :: ts, i + 1, x, h, h1, h2, hb => by
    simp only [List.take_succ_cons, lineOut] at h
    by_cases e1 : c.f0 = t
    · rw [if_pos e1] at h
      by_cases z : (cellT c d).2 = 0
      · rw [if_pos z] at h
        simp only [Prod.mk.injEq] at h
        obtain ⟨rfl, h0⟩ := h
        have := line_bad d e he cs ts i (lineOut d (cs.take i) (ts.take i)).1 (Prod.ext rfl h0) (by simpa using h1) (by simpa using h2) (by simpa using hb)
        rw [lineOut, if_pos e1, if_pos z]
        exact this
      · rw [if_neg z] at h
        simp only [Prod.mk.injEq] at h
        exact absurd h.2 z
    · rw [if_neg e1] at h
      simp only [Prod.mk.injEq] at h
      exact absurd h.2 (by decide)
theorem lines_step (d : Int) (types : List Int) : ∀ (rs : List (List Cel)) (k : Nat) (R : List (List ByteArray)) (x : List ByteArray), linesOut d types (rs.take k) = (R, 0) → ∀ (h1 : k < rs.length), rs[k].length = types.length → lineOut d rs[k] types = (x, 0) →
    linesOut d types (rs.take (k + 1)) = (R ++ [x], 0)
  | r :: rs, 0, R, x, h, _, he, hz => by
    simp only [List.take_zero, linesOut, Prod.mk.injEq] at h
    obtain ⟨rfl, -⟩ := h
    simp only [List.getElem_cons_zero] at he hz
    simp [linesOut, he, hz]
  | r :: rs, k + 1, R, x, h, h1, he, hz => by
    simp only [List.take_succ_cons, linesOut] at h
    by_cases e : r.length = types.length
    · rw [if_pos e] at h
      by_cases z : (lineOut d r types).2 = 0
      · rw [if_pos z] at h
        simp only [Prod.mk.injEq] at h
        obtain ⟨rfl, h0⟩ := h
        have := lines_step d types rs k (linesOut d types (rs.take k)).1 x (Prod.ext rfl h0) (by simpa using h1) (by simpa using he) (by simpa using hz)
        rw [List.take_succ_cons, linesOut, if_pos e, if_pos z, this]
        simp
      · rw [if_neg z] at h
        simp only [Prod.mk.injEq] at h
        exact absurd h.2 z
    · rw [if_neg e] at h
      simp only [Prod.mk.injEq] at h
      exact absurd h.2 (by decide)
theorem lines_bad (d : Int) (types : List Int) (e : Int) (he : e ≠ 0) : ∀ (rs : List (List Cel)) (k : Nat) (R : List (List ByteArray)), linesOut d types (rs.take k) = (R, 0) → ∀ (h1 : k < rs.length),
    (rs[k].length ≠ types.length ∧ e = 140) ∨ (rs[k].length = types.length ∧ (lineOut d rs[k] types).2 = e) → (linesOut d types rs).2 = e
  | r :: rs, 0, R, h, _, hb => by
    simp only [List.getElem_cons_zero] at hb
    rw [linesOut]
    rcases hb with ⟨h1, h2⟩ | ⟨h1, h2⟩
    · rw [if_neg h1, h2]
    · rw [if_pos h1, if_neg (by omega)]; exact h2
  | r :: rs, k + 1, R, h, h1, hb => by
    simp only [List.take_succ_cons, linesOut] at h
    by_cases e1 : r.length = types.length
    · rw [if_pos e1] at h
      by_cases z : (lineOut d r types).2 = 0
      · rw [if_pos z] at h
        simp only [Prod.mk.injEq] at h
        obtain ⟨rfl, h0⟩ := h
        have := lines_bad d types e he rs k (linesOut d types (rs.take k)).1 (Prod.ext rfl h0) (by simpa using h1) (by simpa using hb)
        rw [linesOut, if_pos e1, if_pos z]
        exact this
      · rw [if_neg z] at h
        simp only [Prod.mk.injEq] at h
        exact absurd h.2 z
    · rw [if_neg e1] at h
      simp only [Prod.mk.injEq] at h
      exact absurd h.2 (by decide)
theorem lineOut_length (d : Int) : ∀ (cs : List Cel) (ts : List Int), (lineOut d cs ts).2 = 0 → (lineOut d cs ts).1.length = min cs.length ts.length
  | [], _, _ => by simp [lineOut]
  | _ :: _, [], _ => by simp [lineOut]
  | c :: cs, t :: ts, h => by
    rw [lineOut] at h ⊢
    by_cases e : c.f0 = t
    · rw [if_pos e] at h ⊢
      by_cases z : (cellT c d).2 = 0
      · rw [if_pos z] at h ⊢
        have := lineOut_length d cs ts h
        simp only [List.length_cons, this]
        omega
      · rw [if_neg z] at h; exact absurd h z
    · rw [if_neg e] at h; exact absurd h (by decide)
/-! ### the closures -/
set_option maxRecDepth 100000 in
set_option maxHeartbeats 1000000 in
theorem tright_calls (q : Nat) (types : List Int) (A : Option Addr) (cp : Nat) (vr : Value) (W : World) (hq : W.heap[q]? = some (.cells #[.slice A types.length cp, vr] 36 (0, 0))) (hr : Kd.C (Kd.int .i64) W A types.length types) (c : Nat) (hc : c < types.length) (hn : types.length ≤ 1048576) :
    Calls Tryz.prog 59 #[.int .i64 (c : Int), .pointer (some ⟨q, 0, none⟩)] W fun e W' => e = .returned (.bool (rightOf types c)) ∧ W = W' := by
  obtain ⟨h1, h2⟩ := reads_ints hr
  obtain ⟨ad, rfl⟩ : ∃ ad, A = some ad := by
    rcases h2 with h | h
    · rw [h] at hc; exact absurd hc (by simp)
    · exact h
  have hcell := h1 ad rfl c hc
  have hb : W.cell? ⟨q, 0, none⟩ = some (.slice (some ad) types.length cp) := blk_cell hq 0
  have e : types.getD c 0 = types[c] := by simp [List.getD_eq_getElem?_getD, List.getElem?_eq_getElem hc]
  have hR : rightOf types c = (types[c] == 1 || types[c] == 5) := by unfold rightOf; rw [e]
  rw [hR]
  generalize types[c] = v at *
  have i1 : (c : Int) < (types.length : Int) := by omega
  have i2 : (types.length : Int) ≤ 1048576 := by omega
  clear h1 h2 hr hq e hR hn
  by_cases v1 : v = 1
  · subst v1
    go_enter Tryz.func59, Tryz.ntmps59
    go_wp2_with fail
    go_ret
    exact ⟨rfl, rfl⟩
  · have b1 : (v == 1) = false := beq_eq_false_iff_ne.2 v1
    by_cases v5 : v = 5
    · subst v5
      clear v1
      go_enter Tryz.func59, Tryz.ntmps59
      go_wp2_with fail
      go_ret
      exact ⟨rfl, rfl⟩
    · have b5 : (v == 5) = false := beq_eq_false_iff_ne.2 v5
      clear v1 v5
      go_enter Tryz.func59, Tryz.ntmps59
      go_wp2_with fail
      go_ret
      exact ⟨by rw [b1, b5]; rfl, rfl⟩
set_option maxRecDepth 100000 in
set_option maxHeartbeats 2000000 in
theorem ttext_calls {w : World} {base g h : Nat} {d y : Int} {rows : List (List ByteArray)} (H : St w base g h d y rows) {q : Nat} {types : List Int} {A : Option Addr} {cp : Nat} {vr : Value} (hq : w.heap[q]? = some (.cells #[.slice A types.length cp, vr] 36 (0, 0)))
    (hr : Kd.C (Kd.int .i64) w A types.length types) (hn : types.length ≤ 1048576) (hf : GridFits (rightOf types) rows) (hlg : longest rows ≤ types.length) :
    Calls Tryz.prog 58 #[.pointer (some ⟨h, 0, none⟩), .pointer (some ⟨q, 0, none⟩)] w fun en w' =>
      en = .returned (.string ⟨(gridText (rightOf types) rows).toArray⟩) ∧ Below w.heap.size w w' := by
  have hbx : w.cell? ⟨h, 0, none⟩ = some (.pointer (some ⟨g, 0, none⟩)) := blk_cell H.box 0
  obtain ⟨v2, h1, h2⟩ := H.sh.ex
  obtain ⟨A2, c2, rfl, hlc, hC⟩ := Kd.R_reads h2
  have hrw : w.cell? ⟨g, 2, none⟩ = some (.slice A2 rows.length c2) := blk_cell h1 2
  have hgrid : Calls Tryz.prog 46 #[.slice A2 rows.length c2, .func (.func 59) #[] #[.pointer (some ⟨q, 0, none⟩)]] w fun e w' =>
      e = .returned (.string ⟨(gridText (rightOf types) rows).toArray⟩) ∧ Below w.heap.size w w' :=
    grid_callsL A2 c2 rows 59 q (rightOf types) w hC hlc hf.n hf.m hf.w hf.g (func_run (fn := Tryz.f59) (by kernel_rfl) (by kernel_rfl) (by kernel_rfl))
      (fun j W2 hj hW => tright_calls q types A cp vr W2 ((hW.block q (blk_lt hq)).trans hq) (Kd.C_below hr hW) j (by omega) hn)
  have HGR := Aside0.mk hgrid
  clear H h1 h2 hC hlc hf hgrid hq hr hlg hn
  go_enter Tryz.func58, Tryz.ntmps58
  go_wp2_with fail
  refine HGR.out.mono ?_
  rintro e w2 ⟨rfl, hb2⟩
  have HB2 := Aside0.mk hb2
  clear hb2
  go_wp2_with fail
  go_ret
  exact ⟨rfl, HB2.out⟩
theorem tend_calls {w : World} {base g h : Nat} {d : Int} {rows : List (List ByteArray)} (H : St w base g h d 0 rows) {q : Nat} {types : List Int} {A : Option Addr} {cp : Nat} {vr : Value} (hq : w.heap[q]? = some (.cells #[.slice A types.length cp, vr] 36 (0, 0)))
    (hr : Kd.C (Kd.int .i64) w A types.length types) (hn : types.length ≤ 1048576) (hf : GridFits (rightOf types) rows) (hlg : longest rows ≤ types.length) :
    Calls Tryz.prog 44 #[.pointer (some ⟨g, 0, none⟩), .func (.func 58) #[] #[.pointer (some ⟨h, 0, none⟩), .pointer (some ⟨q, 0, none⟩)]] w fun en w' =>
      en = .returned (.tuple #[.string ⟨(gridText (rightOf types) rows).toArray⟩, .int .i64 0]) ∧ Below w.heap.size w w' := by
  obtain ⟨v2, h1, h2⟩ := H.sh.ex
  have hy : w.cell? ⟨g, 1, none⟩ = some (.int .i64 0) := blk_cell h1 1
  have HT := Aside0.mk (ttext_calls H hq hr hn hf hlg)
  clear H hf h1 h2 hq hr hlg hn
  have hrun := func_run (fn := Tryz.f58) (P := Tryz.prog) (f := 58) (by kernel_rfl) (by kernel_rfl) (by kernel_rfl)
  go_enter Tryz.func44, Tryz.ntmps44
  go_wp2_with fail
  refine HT.out.mono ?_
  rintro en w1 ⟨rfl, hb⟩
  have HB := Aside0.mk hb
  clear hb
  go_wp2_with fail
  go_ret2
  exact ⟨rfl, HB.out⟩
end Go.Proofs.YtmimninicegjcaaGreatDoor


/- package sheet's own state: what fail, amount, total and row do to a sheet. -/
import Derived.Deep.QuietTactic
import Derived.BigQuiet
import Derived.Outline
import Derived.Test.YtmimninicegjcaaGreatDoorTbHandGrid
import Derived.Test.YtmimninicegjcaaGreatDoorTbLeafD
namespace Go.Proofs.YtmimninicegjcaaGreatDoor
open Go.RowKit Go.Shelf Go.Lib Go.Proofs.YtmimninicegjcaaGreatDoorW.PrintWords Go.Proofs.YtmimninicegjcaaGreatDoorW.PrintLast Go.Proofs.YtmimninicegjcaaGreatDoorW.PrintMore
set_option linter.unusedVariables false
set_option linter.unusedSimpArgs false

abbrev kRows : Kd (List ByteArray) := Kd.slice 9 Kd.string
/-- A sheet at block g: its digits, its first fault, its rows (made since base). -/
structure Sh (w : World) (base g : Nat) (d y : Int) (rows : List (List ByteArray)) : Prop where
  ex : ∃ vr, w.heap[g]? = some (.cells #[.int .i64 d, .int .i64 y, vr] 82 (0, 0)) ∧ kRows.R 90 w base (fun _ => True) vr rows
  ge : base ≤ g
/-- What a sheet's calls leave: blocks of other types than a sheet's own two. -/
structure KT (w w' : World) : Prop where
  size : w.heap.size ≤ w'.heap.size
  keep : ∀ (k : Nat) (c : Array Value) (t : Nat) , w.heap[k]? = some (.cells c t (0, 0)) → t ≠ 82 → t ≠ 90 → w'.heap[k]? = some (.cells c t (0, 0))
theorem KT.refl (w : World) : KT w w := ⟨Nat.le_refl _, fun _ _ _ h _ _ => h⟩
theorem KT.trans {a b c : World} (h : KT a b) (k : KT b c) : KT a c := ⟨Nat.le_trans h.size k.size, fun i cs t hi h1 h2 => k.keep i cs t (h.keep i cs t hi h1 h2) h1 h2⟩
theorem KT.below {w W : World} (hb : Below w.heap.size w W) : KT w W := ⟨hb.size, fun k c t h _ _ => (hb.block k (blk_lt h)).trans h⟩
theorem KT.kd {α : Type} {d : Kd α} {e base : Nat} {ok : Nat → Prop} {w W : World} {v : Value} {xs : List α} (h : KT w W) (hr : d.R e w base ok v xs) (ht : ∀ q, q ∈ e :: d.E → q ≠ 82 ∧ q ≠ 90) : d.R e W base ok v xs := by
  refine Kd.R_mono (Kd.R_move (Kd.R_bound hr) (fun k hk => ?_)) (fun _ hk => hk.1)
  obtain ⟨_, _, _, q, hq, cells, hc⟩ := hk
  rw [hc]
  exact h.keep k _ _ hc (ht q hq).1 (ht q hq).2
theorem Sh.below {w W : World} {base g : Nat} {d y : Int} {rows : List (List ByteArray)} (h : Sh w base g d y rows) (hb : Below w.heap.size w W) : Sh W base g d y rows := by
  obtain ⟨vr, h1, h2⟩ := h.ex
  exact ⟨⟨vr, (hb.block g (blk_lt h1)).trans h1, Kd.R_below h2 hb⟩, h.ge⟩
theorem Sh.lt {w : World} {base g : Nat} {d y : Int} {rows : List (List ByteArray)} (h : Sh w base g d y rows) : g < w.heap.size := by
  obtain ⟨vr, h1, h2⟩ := h.ex
  exact blk_lt h1
theorem Sh.base_le {w : World} {base g : Nat} {d y : Int} {rows : List (List ByteArray)} (h : Sh w base g d y rows) : base ≤ w.heap.size := Nat.le_of_lt (Nat.lt_of_le_of_lt h.ge h.lt)
theorem Sh.set {w : World} {base g : Nat} {d y : Int} {rows : List (List ByteArray)} (h : Sh w base g d y rows) (e : Int) : Sh (w.setCell ⟨g, 1, none⟩ (.int .i64 e)) base g d e rows ∧ KT w (w.setCell ⟨g, 1, none⟩ (.int .i64 e)) ∧ Below base w (w.setCell ⟨g, 1, none⟩ (.int .i64 e)) := by
  obtain ⟨vr, h1, h2⟩ := h.ex
  refine ⟨⟨⟨vr, by simpa using blk_set h1 1 (.int .i64 e), ?_⟩, h.ge⟩, ⟨by simp [World.setCell], fun k c t hk ht _ => ?_⟩, (Below.refl _ _).setCell h.ge _⟩
  · exact Kd.R_mono (Kd.R_far (Kd.R_types h2 h1 (by decide)) (p := ⟨g, 1, none⟩) (fun k hk => hk.2) _) (fun _ _ => trivial)
  · refine (Below.heap_setCell w ⟨g, 1, none⟩ _ k ?_).trans hk
    rintro rfl
    rw [h1] at hk
    injection hk with hk
    injection hk with _ hk
    exact ht hk.symm

theorem fail_exact (w : World) (g : Nat) (d y e : Int) (vr : Value) (hb : w.heap[g]? = some (.cells #[.int .i64 d, .int .i64 y, vr] 82 (0, 0))) :
    Calls Tryz.prog 39 #[.pointer (some ⟨g, 0, none⟩), .int .i64 e] w fun en w' =>
      en = .returned (.tuple #[]) ∧ w' = if y = 0 then w.setCell ⟨g, 1, none⟩ (.int .i64 e) else w := by
  have h1 : w.cell? ⟨g, 1, none⟩ = some (.int .i64 y) := blk_cell hb 1
  have f1 := blk_frozen hb 1
  by_cases hy : y = 0
  · subst hy
    go_enter Tryz.func39, Tryz.ntmps39
    go_wp2
    go_end0
    exact ⟨rfl, by simp⟩
  · have hy' : (y == 0) = false := beq_eq_false_iff_ne.2 hy
    go_enter Tryz.func39, Tryz.ntmps39
    go_wp2
    go_end0
    exact ⟨rfl, by simp [hy]⟩
/-- The first fault stays. -/
def first1 (y e : Int) : Int := if y = 0 then e else y
theorem Sh.fail {w : World} {base g : Nat} {d y : Int} {rows : List (List ByteArray)} (h : Sh w base g d y rows) (e : Int) :
    Calls Tryz.prog 39 #[.pointer (some ⟨g, 0, none⟩), .int .i64 e] w fun en w' =>
      en = .returned (.tuple #[]) ∧ Sh w' base g d (first1 y e) rows ∧ KT w w' ∧ Below base w w' := by
  obtain ⟨vr, h1, h2⟩ := h.ex
  refine (fail_exact w g d y e vr h1).mono ?_
  rintro en w' ⟨rfl, rfl⟩
  unfold first1
  by_cases hy : y = 0
  · rw [if_pos hy, if_pos hy]
    exact ⟨rfl, h.set e⟩
  · rw [if_neg hy, if_neg hy]
    exact ⟨rfl, h, .refl _, .refl _ _⟩
/-- What a call's fault does. -/
def after (y e e' : Int) : Int := if e = 0 then y else first1 y e'
theorem Sh.amount {w : World} {base g : Nat} {d y : Int} {rows : List (List ByteArray)} (h : Sh w base g d y rows) (hL : Laid w) {a : Int} {t : ByteArray} {e : Int} (hm : L_Print.f a d = some (t, e)) :
    Calls Tryz.prog 42 #[.pointer (some ⟨g, 0, none⟩), .int .i64 a] w fun en w' =>
      en = .returned (.string t) ∧ Sh w' base g d (after y e e) rows ∧ KT w w' ∧ Below base w w' := by
  have hS := h
  obtain ⟨vr, h1, h2⟩ := h.ex
  have h0 : w.cell? ⟨g, 0, none⟩ = some (.int .i64 d) := blk_cell h1 0
  have HM := Aside0.mk hm
  have HS := Aside0.mk hS
  have HL := Aside0.mk hL
  clear hm hS hL h h1 h2
  by_cases he : e = 0
  · subst he
    go_enter Tryz.func42, Tryz.ntmps42
    go_wp2_with fail
    refine (L_Print.calls _ _ _ _ _ HL.out HM.out).mono ?_
    rintro en w1 ⟨rfl, hb⟩
    have HB := Aside0.mk hb
    clear hb
    go_wp2_with fail
    go_ret
    exact ⟨rfl, by simpa [after] using HS.out.below HB.out, .below HB.out, HB.out.mono HS.out.base_le⟩
  · have he' : (e == 0) = false := beq_eq_false_iff_ne.2 he
    have HE := Aside0.mk he
    clear he
    go_enter Tryz.func42, Tryz.ntmps42
    go_wp2_with fail
    refine (L_Print.calls _ _ _ _ _ HL.out HM.out).mono ?_
    rintro en w1 ⟨rfl, hb⟩
    have HB := Aside0.mk hb
    clear hb
    go_wp2_with fail
    refine ((HS.out.below HB.out).fail e).mono ?_
    rintro en w2 ⟨rfl, h3, h4, h5⟩
    have H3 := Aside0.mk h3
    have H4 := Aside0.mk h4
    have H5 := Aside0.mk h5
    clear h3 h4 h5
    go_wp2_with fail
    go_ret
    exact ⟨rfl, by rw [after, if_neg HE.out]; exact H3.out, (KT.below HB.out).trans H4.out, (HB.out.mono HS.out.base_le).trans H5.out⟩
theorem Sh.total {w : World} {base g : Nat} {d y : Int} {rows : List (List ByteArray)} (h : Sh w base g d y rows) {A : Option Addr} {c : Nat} {l : List Int} {v e : Int} (hr : Kd.C (Kd.int .i64) w A l.length l) (hc : l.length ≤ c) (hm : L_Sum.f l = some (v, e)) :
    Calls Tryz.prog 40 #[.pointer (some ⟨g, 0, none⟩), .slice A l.length c] w fun en w' =>
      en = .returned (.int .i64 v) ∧ Sh w' base g d (after y e 11) rows ∧ KT w w' ∧ Below base w w' := by
  have HM := Aside0.mk hm
  have HS := Aside0.mk h
  have HR := Aside0.mk hr
  have HC := Aside0.mk hc
  clear hm h hr hc
  by_cases he : e = 0
  · subst he
    go_enter Tryz.func40, Tryz.ntmps40
    go_wp2_with fail
    refine (L_Sum.calls _ _ _ _ _ _ HR.out HC.out HM.out).mono ?_
    rintro en w1 ⟨rfl, hb⟩
    have HB := Aside0.mk hb.below
    clear hb
    go_wp2_with fail
    go_ret
    exact ⟨rfl, by simpa [after] using HS.out.below HB.out, .below HB.out, HB.out.mono HS.out.base_le⟩
  · have he' : (e == 0) = false := beq_eq_false_iff_ne.2 he
    have HE := Aside0.mk he
    clear he
    go_enter Tryz.func40, Tryz.ntmps40
    go_wp2_with fail
    refine (L_Sum.calls _ _ _ _ _ _ HR.out HC.out HM.out).mono ?_
    rintro en w1 ⟨rfl, hb⟩
    have HB := Aside0.mk hb.below
    clear hb
    go_wp2_with fail
    refine ((HS.out.below HB.out).fail 11).mono ?_
    rintro en w2 ⟨rfl, h3, h4, h5⟩
    have H3 := Aside0.mk h3
    have H4 := Aside0.mk h4
    have H5 := Aside0.mk h5
    clear h3 h4 h5
    go_wp2_with fail
    go_ret
    exact ⟨rfl, by rw [after, if_neg HE.out]; exact H3.out, (KT.below HB.out).trans H4.out, (HB.out.mono HS.out.base_le).trans H5.out⟩
theorem info_strs : (Tryz.prog.info? 90).map (fun i => (i.zero, i.size, i.bytes)) = some (some (.slice none 0 0), 1, 24) := by kernel_rfl
theorem Sh.row {w : World} {base g : Nat} {d y : Int} {rows : List (List ByteArray)} (h : Sh w base g d y rows) {A : Option Addr} {n c : Nat} {r : List ByteArray} (hr : Kd.R Kd.string 9 w base (fun _ => True) (.slice A n c) r) (hl : rows.length < 5864062014805) :
    Calls Tryz.prog 43 #[.pointer (some ⟨g, 0, none⟩), .slice A n c] w fun en w' =>
      en = .returned (.tuple #[]) ∧ Sh w' base g d y (rows ++ [r]) ∧ KT w w' ∧ Below base w w' := by
  have HG := Aside0.mk h.ge
  have HZ := Aside0.mk h.base_le
  obtain ⟨vr, h1, h2⟩ := h.ex
  have h0 : w.cell? ⟨g, 2, none⟩ = some vr := blk_cell h1 2
  have HK := Aside0.mk h1
  have HR := Aside0.mk h2
  have HN := Aside0.mk hr
  have HLN := Aside0.mk hl
  clear h1 h2 hr h hl
  go_enter Tryz.func43, Tryz.ntmps43
  go_wp2_with (at_builtin; refine Kd.R_append kRows (w0 := w) base rfl (.tmp 8) (.tmp 10) 80 90 (.slice none 0 0) 24 rfl Tryz.underlying80 info_strs rfl (by decide) (by decide) vr rows r [.slice A n c] (fun _ => True) (fun k => some k ≠ vr.ownBlock) rfl rfl ?aP (fun _ hk => ⟨trivial, hk⟩) (fun _ _ => trivial) ?aO ?aB ?aS ?aL ?_)
  case aP => exact Kd.M_row (Kd.R_mono (Kd.R_apartR HN.out HR.out (by decide)) (fun _ hk => hk.2))
  case aO => exact HR.out
  case aB => exact Below.refl _ _
  case aS => exact HZ.out
  case aL => have := HLN.out; omega
  intro v1 w1 ho hb hg hat
  obtain ⟨A1, c1, rfl⟩ := Kd.R_slice ho
  rw [show (rows ++ [r]).length = rows.length + 1 by simp] at ho hat
  have hblk := blk_grown HK.out hg (Kd.R_ne HR.out HK.out (by decide))
  have HO := Aside0.mk ho
  have HBL := Aside0.mk hb
  have HGR := Aside0.mk hg
  have HK1 := Aside0.mk hblk
  have f2 : w1.frozen? ⟨g, 2, none⟩ = false := blk_frozen HK1.out 2
  have c2 : w1.cell? ⟨g, 2, none⟩ = some vr := blk_cell HK1.out 2
  clear ho hb hg hat hblk
  go_wp2
  go_end0
  refine ⟨rfl, ⟨⟨.slice A1 (rows.length + 1) c1, by simpa using blk_set HK1.out 2 (.slice A1 (rows.length + 1) c1), ?_⟩, HG.out⟩, ⟨?_, fun k cs t hk ht1 ht2 => ?_⟩, HBL.out.setCell HG.out _⟩
  · exact Kd.R_mono (Kd.R_far (Kd.R_types HO.out HK1.out (by decide)) (p := ⟨g, 2, none⟩) (fun k hk => hk.2) _) (fun _ _ => trivial)
  · simpa [World.setCell] using HGR.out.size
  · have hne : k ≠ g := by
      rintro rfl
      have := HK.out
      rw [hk] at this
      injection this with this
      injection this with _ this
      exact ht1 this
    refine (Below.heap_setCell w1 ⟨g, 2, none⟩ _ k hne).trans ((HGR.out.block k (blk_lt hk) ?_).trans hk)
    intro he
    obtain ⟨cells, hc⟩ := Kd.R_typed HR.out k he.symm
    rw [hk] at hc
    injection hc with hc
    injection hc with _ hc
    exact ht2 hc
end Go.Proofs.YtmimninicegjcaaGreatDoor


/- Part of the proof of RowTables: TrialA, TrialB. -/
import Derived.Deep.RegionHeld3
import Derived.Test.YtmimninicegjcaaGreatDoorTbSheet
/- sheet.Trial's small callees: begin, end's two ways, the closures. -/
namespace Go.Proofs.YtmimninicegjcaaGreatDoor
open Go.RowKit Go.Shelf Go.Lib Go.Proofs.YtmimninicegjcaaGreatDoorW.PrintWords Go.Proofs.YtmimninicegjcaaGreatDoorW.PrintLast Go.Proofs.YtmimninicegjcaaGreatDoorW.PrintMore
set_option linter.unusedVariables false
set_option linter.unusedSimpArgs false

theorem Sh.new (w : World) (d : Int) : Sh (w.alloc (.cells #[.int .i64 d, .int .i64 0, .slice none 0 0] 82 (0, 0))) w.heap.size w.heap.size d 0 [] :=
  ⟨⟨.slice none 0 0, heap_alloc_new w _, Kd.R_nil _ _ _ _ _⟩, Nat.le_refl _⟩
/-- The fault that the digits are. -/
def why0 (d : Int) : Int := if 0 ≤ d ∧ d ≤ 6 then 0 else 1
theorem begin_calls (d : Int) (w : World) :
    Calls Tryz.prog 37 #[.int .i64 d] w fun en w' =>
      en = .returned (.pointer (some ⟨w.heap.size, 0, none⟩)) ∧ Sh w' w.heap.size w.heap.size d (why0 d) [] ∧ Below w.heap.size w w' := by
  have HB := Aside0.mk (below_alloc (Below.refl w.heap.size w) (.cells #[.int .i64 d, .int .i64 0, .slice none 0 0] 82 (0, 0)))
  have HS := Aside0.mk (Sh.new w d)
  by_cases h0 : d < 0
  · have h6 : ¬ (0 ≤ d ∧ d ≤ 6) := by omega
    have H6 := Aside0.mk h6
    have h0' : decide (d < 0) = true := decide_eq_true h0
    clear h6
    go_enter Tryz.func37, Tryz.ntmps37
    go_wp2_with fail
    refine (HS.out.fail 1).mono ?_
    rintro en w2 ⟨rfl, h3, h4, h5⟩
    have H3 := Aside0.mk h3
    have H5 := Aside0.mk h5
    clear h3 h4 h5
    go_wp2_with fail
    go_ret
    exact ⟨rfl, by rw [why0, if_neg H6.out]; exact H3.out, HB.out.trans H5.out⟩
  · by_cases h1 : 6 < d
    · have h6 : ¬ (0 ≤ d ∧ d ≤ 6) := by omega
      have H6 := Aside0.mk h6
      have h0' : decide (d < 0) = false := decide_eq_false h0
      have h1' : decide (6 < d) = true := decide_eq_true h1
      clear h6
      go_enter Tryz.func37, Tryz.ntmps37
      go_wp2_with fail
      refine (HS.out.fail 1).mono ?_
      rintro en w2 ⟨rfl, h3, h4, h5⟩
      have H3 := Aside0.mk h3
      have H5 := Aside0.mk h5
      clear h3 h4 h5
      go_wp2_with fail
      go_ret
      exact ⟨rfl, by rw [why0, if_neg H6.out]; exact H3.out, HB.out.trans H5.out⟩
    · have h6 : 0 ≤ d ∧ d ≤ 6 := by omega
      have H6 := Aside0.mk h6
      have h0' : decide (d < 0) = false := decide_eq_false h0
      have h1' : decide (6 < d) = false := decide_eq_false h1
      clear h6
      go_enter Tryz.func37, Tryz.ntmps37
      go_wp2_with fail
      go_ret
      exact ⟨rfl, by rw [why0, if_pos H6.out]; exact HS.out, HB.out⟩

/-- A sheet and the box that its variable is. -/
structure St (w : World) (base g h : Nat) (d y : Int) (rows : List (List ByteArray)) : Prop where
  sh : Sh w base g d y rows
  box : w.heap[h]? = some (.cells #[.pointer (some ⟨g, 0, none⟩)] 74 (0, 0))
  laid : Laid w
theorem St.below {w W : World} {base g h : Nat} {d y : Int} {rows : List (List ByteArray)} (H : St w base g h d y rows) (hb : Below w.heap.size w W) : St W base g h d y rows :=
  ⟨H.sh.below hb, (hb.block h (blk_lt H.box)).trans H.box, H.laid.below hb⟩
theorem Laid.kt {w W : World} {base : Nat} (h : Laid w) (hb : Below base w W) (h16 : 7 ≤ base) : Laid W :=
  ⟨var?_below hb globPow (by omega) h.pow, by
    obtain ⟨m, hm⟩ := h.maxLen
    exact ⟨m, (hb.cell (p := ⟨0, 0, none⟩) (by show 0 < _; omega)).trans hm⟩, Nat.le_trans h.low hb.size⟩
theorem St.step {w W : World} {base g h : Nat} {d y y' : Int} {rows rows' : List (List ByteArray)} (H : St w base g h d y rows) (h16 : 7 ≤ base) (hs : Sh W base g d y' rows') (hk : KT w W) (hb : Below base w W) : St W base g h d y' rows' :=
  ⟨hs, hk.keep h _ _ H.box (by decide) (by decide), H.laid.kt hb h16⟩

/-- A side of a row: nothing where it is 0. -/
def sideText (a : Int) (d : Nat) : ByteArray := if a = 0 then ⟨#[]⟩ else moneyText a d
theorem side_calls {w : World} {base g h : Nat} {d : Int} {rows : List (List ByteArray)} (H : St w base g h d 0 rows) (h16 : 7 ≤ base) (hd0 : 0 ≤ d) (hd1 : d ≤ 6) (a : Int) (ha0 : 0 ≤ a) (ha1 : a ≤ 9223372036854775807) :
    Calls Tryz.prog 41 #[.int .i64 a, .pointer (some ⟨h, 0, none⟩)] w fun en w' =>
      en = .returned (.string (sideText a d.toNat)) ∧ St w' base g h d 0 rows ∧ KT w w' ∧ Below base w w' := by
  have hm : L_Print.f a d = some (moneyText a d.toNat, 0) := by
    unfold L_Print.f
    rw [if_neg (by omega), if_neg (by omega), if_pos (by unfold isI64; omega)]
  have hbx : w.cell? ⟨h, 0, none⟩ = some (.pointer (some ⟨g, 0, none⟩)) := blk_cell H.box 0
  have HM := Aside0.mk hm
  have HS := Aside0.mk H
  have H16 := Aside0.mk h16
  clear hm H h16 hd0 hd1 ha0 ha1
  by_cases h0 : a = 0
  · subst h0
    go_enter Tryz.func41, Tryz.ntmps41
    go_wp2_with fail
    go_ret
    exact ⟨rfl, HS.out, .refl _, .refl _ _⟩
  · have hA := Aside0.mk h0
    have h0' : (a == 0) = false := beq_eq_false_iff_ne.2 h0
    clear h0
    go_enter Tryz.func41, Tryz.ntmps41
    go_wp2_with fail
    refine (HS.out.sh.amount HS.out.laid HM.out).mono ?_
    rintro en w2 ⟨rfl, h3, h4, h5⟩
    have H3 := Aside0.mk h3
    have H4 := Aside0.mk h4
    have H5 := Aside0.mk h5
    clear h3 h4 h5
    go_wp2_with fail
    go_ret
    exact ⟨by rw [sideText, if_neg hA.out]; rfl, HS.out.step H16.out (by simpa [after] using H3.out) H4.out H5.out, H4.out, H5.out⟩
theorem behind_calls (k : Int) (w : World) :
    Calls Tryz.prog 47 #[.int .i64 k] w fun en w' =>
      en = .returned (.func (.func 105) #[] #[.pointer (some ⟨w.heap.size, 0, none⟩)]) ∧ w'.cell? ⟨w.heap.size, 0, none⟩ = some (.int .i64 k) ∧ w.heap.size < w'.heap.size ∧ Below w.heap.size w w' := by
  go_enter Tryz.func47, Tryz.ntmps47
  go_wp2_with fail
  go_ret
  exact ⟨rfl, by simp [go_sem, World.cell?_alloc_new], by rw [show ∀ o : Obj, (w.alloc o).heap.size = w.heap.size + 1 from fun o => Array.size_push ..]; omega, below_alloc (Below.refl _ _) _⟩
theorem right_calls (k : Int) (q : Nat) (c : Nat) (w : World) (hc : w.cell? ⟨q, 0, none⟩ = some (.int .i64 k)) :
    Calls Tryz.prog 105 #[.int .i64 (c : Int), .pointer (some ⟨q, 0, none⟩)] w fun en w' => en = .returned (.bool (decide (k ≤ (c : Int)))) ∧ w = w' := by
  go_enter Tryz.func105, Tryz.ntmps105
  go_wp2_with fail
  go_ret
  exact ⟨rfl, rfl⟩
end Go.Proofs.YtmimninicegjcaaGreatDoor
/- sheet.Trial's text at its end: Trial$2 and end. -/
namespace Go.Proofs.YtmimninicegjcaaGreatDoor
open Go.RowKit Go.Shelf Go.Lib Go.Proofs.YtmimninicegjcaaGreatDoorW.PrintWords Go.Proofs.YtmimninicegjcaaGreatDoorW.PrintLast Go.Proofs.YtmimninicegjcaaGreatDoorW.PrintMore
set_option linter.unusedVariables false
set_option linter.unusedSimpArgs false
def fromOne (c : Nat) : Bool := decide ((1 : Int) ≤ (c : Int))
structure GridFits (R : Nat → Bool) (rows : List (List ByteArray)) : Prop where
  n : rows.length ≤ 4194304
  m : ∀ r ∈ rows, r.length ≤ 4194304
  w : ∀ c, wid rows c ≤ 4194304
  g : ∀ k, (gridTo R rows k).length ≤ 70368744177664
theorem func_run {P : Program} {f : FuncId} {fn : Func} (hf : P.funcs[f]? = some fn) (hname : (fn.name == "runtime.NumGoroutine") = false) (hb : fn.body.isSome = true) : ∀ args w, (callFunc f args).run P w = .ok (.enter f args) w := fun args w => enters_ hf hname hb args w
set_option maxRecDepth 100000 in
set_option maxHeartbeats 2000000 in
theorem text_calls {w : World} {base g h : Nat} {d y : Int} {rows : List (List ByteArray)} (H : St w base g h d y rows) (hf : GridFits fromOne rows) :
    Calls Tryz.prog 45 #[.pointer (some ⟨h, 0, none⟩)] w fun en w' =>
      en = .returned (.string ⟨(gridText fromOne rows).toArray⟩) ∧ Below w.heap.size w w' := by
  have hbx : w.cell? ⟨h, 0, none⟩ = some (.pointer (some ⟨g, 0, none⟩)) := blk_cell H.box 0
  obtain ⟨vr, h1, h2⟩ := H.sh.ex
  obtain ⟨A, c, rfl, hlc, hC⟩ := Kd.R_reads h2
  have hrw : w.cell? ⟨g, 2, none⟩ = some (.slice A rows.length c) := blk_cell h1 2
  have HH := Aside0.mk (blk_lt H.box)
  have HG := Aside0.mk (blk_lt h1)
  have hgrid : ∀ (W : World) (q : Nat), Below w.heap.size w W → W.cell? ⟨q, 0, none⟩ = some (.int .i64 1) → q < W.heap.size →
      Calls Tryz.prog 46 #[.slice A rows.length c, .func (.func 105) #[] #[.pointer (some ⟨q, 0, none⟩)]] W fun e w' =>
      e = .returned (.string ⟨(gridText fromOne rows).toArray⟩) ∧ Below W.heap.size W w' := fun W q hb hq hlt =>
    grid_calls A c rows 105 q fromOne W (Kd.C_below hC hb) hlc hf.n hf.m hf.w hf.g (func_run (fn := Tryz.f105) (by kernel_rfl) (by kernel_rfl) (by kernel_rfl)) (fun j W2 hW => right_calls 1 q j W2 ((hW.cell hlt).trans hq))
  have HGR := Aside0.mk hgrid
  clear H h1 h2 hC hlc hf hgrid
  go_enter Tryz.func45, Tryz.ntmps45
  go_wp2_with fail
  go_region_held3 (fun w' => w'.cell? ⟨h, 0, none⟩ = some (.pointer (some ⟨g, 0, none⟩)) ∧ w'.cell? ⟨g, 2, none⟩ = some (.slice A rows.length c))
    (first | exact ⟨hbx, hrw⟩ | exact ⟨(hb3.cell HH.out).trans hbx, (hb3.cell HG.out).trans hrw⟩ | exact ⟨(hb0.cell HH.out).trans hbx, (hb0.cell HG.out).trans hrw⟩)
    (first
      | (go_at_call 47; refine (behind_calls 1 _).mono ?_; rintro e w1 ⟨rfl, hq, hlt, hb⟩; have hb0 : Below w.heap.size w w1 := ⟨hb.os, hb.tape, hb.output, hb.size, hb.block⟩)
      | (go_at_call 46; refine (HGR.out _ _ hb0 hq hlt).mono ?_; rintro e w2 ⟨rfl, hb2⟩; have hb3 : Below w.heap.size w w2 := below_step hb0 hb2))
  go_wp2_with fail
  go_ret
  exact ⟨rfl, hb3⟩
theorem end_calls {w : World} {base g h : Nat} {d : Int} {rows : List (List ByteArray)} (H : St w base g h d 0 rows) (hf : GridFits fromOne rows) :
    Calls Tryz.prog 44 #[.pointer (some ⟨g, 0, none⟩), .func (.func 45) #[] #[.pointer (some ⟨h, 0, none⟩)]] w fun en w' =>
      en = .returned (.tuple #[.string ⟨(gridText fromOne rows).toArray⟩, .int .i64 0]) ∧ Below w.heap.size w w' := by
  obtain ⟨vr, h1, h2⟩ := H.sh.ex
  have hy : w.cell? ⟨g, 1, none⟩ = some (.int .i64 0) := blk_cell h1 1
  have HH := Aside0.mk H
  have HF := Aside0.mk hf
  clear H hf h1 h2
  have hrun := func_run (fn := Tryz.f45) (P := Tryz.prog) (f := 45) (by kernel_rfl) (by kernel_rfl) (by kernel_rfl)
  go_enter Tryz.func44, Tryz.ntmps44
  go_wp2_with fail
  refine (text_calls HH.out HF.out).mono ?_
  rintro en w1 ⟨rfl, hb⟩
  have HB := Aside0.mk hb
  clear hb
  go_wp2_with fail
  go_ret2
  exact ⟨rfl, HB.out⟩
end Go.Proofs.YtmimninicegjcaaGreatDoor

/- sheet.Trial's text at its end: Trial$2 and end. -/
import Derived.Test.YtmimninicegjcaaGreatDoorStTrialA
namespace Go.Proofs.YtmimninicegjcaaGreatDoor
open Go.RowKit Go.Shelf Go.Lib Go.Proofs.YtmimninicegjcaaGreatDoorW.PrintWords Go.Proofs.YtmimninicegjcaaGreatDoorW.PrintLast Go.Proofs.YtmimninicegjcaaGreatDoorW.PrintMore
set_option linter.unusedVariables false
set_option linter.unusedSimpArgs false
def fromOne (c : Nat) : Bool := decide ((1 : Int) ≤ (c : Int))
structure GridFits (R : Nat → Bool) (rows : List (List ByteArray)) : Prop where
  n : rows.length ≤ 4194304
  m : ∀ r ∈ rows, r.length ≤ 4194304
  w : ∀ c, wid rows c ≤ 4194304
  g : ∀ k, (gridTo R rows k).length ≤ 70368744177664
theorem func_run {P : Program} {f : FuncId} {fn : Func} (hf : P.funcs[f]? = some fn) (hname : (fn.name == "runtime.NumGoroutine") = false) (hb : fn.body.isSome = true) : ∀ args w, (callFunc f args).run P w = .ok (.enter f args) w := fun args w => enters_ hf hname hb args w
set_option maxRecDepth 100000 in
set_option maxHeartbeats 2000000 in
theorem text_calls {w : World} {base g h : Nat} {d y : Int} {rows : List (List ByteArray)} (H : St w base g h d y rows) (hf : GridFits fromOne rows) :
    Calls Tryz.prog 45 #[.pointer (some ⟨h, 0, none⟩)] w fun en w' =>
      en = .returned (.string ⟨(gridText fromOne rows).toArray⟩) ∧ Below w.heap.size w w' := by
  have hbx : w.cell? ⟨h, 0, none⟩ = some (.pointer (some ⟨g, 0, none⟩)) := blk_cell H.box 0
  obtain ⟨vr, h1, h2⟩ := H.sh.ex
  obtain ⟨A, c, rfl, hlc, hC⟩ := Kd.R_reads h2
  have hrw : w.cell? ⟨g, 2, none⟩ = some (.slice A rows.length c) := blk_cell h1 2
  have HH := Aside0.mk (blk_lt H.box)
  have HG := Aside0.mk (blk_lt h1)
  have hgrid : ∀ (W : World) (q : Nat), Below w.heap.size w W → W.cell? ⟨q, 0, none⟩ = some (.int .i64 1) → q < W.heap.size →
      Calls Tryz.prog 46 #[.slice A rows.length c, .func (.func 105) #[] #[.pointer (some ⟨q, 0, none⟩)]] W fun e w' =>
      e = .returned (.string ⟨(gridText fromOne rows).toArray⟩) ∧ Below W.heap.size W w' := fun W q hb hq hlt =>
    grid_calls A c rows 105 q fromOne W (Kd.C_below hC hb) hlc hf.n hf.m hf.w hf.g (func_run (fn := Tryz.f105) (by kernel_rfl) (by kernel_rfl) (by kernel_rfl)) (fun j W2 hW => right_calls 1 q j W2 ((hW.cell hlt).trans hq))
  have HGR := Aside0.mk hgrid
  clear H h1 h2 hC hlc hf hgrid
  go_enter Tryz.func45, Tryz.ntmps45
  go_wp2_with fail
  go_region_held3 (fun w' => w'.cell? ⟨h, 0, none⟩ = some (.pointer (some ⟨g, 0, none⟩)) ∧ w'.cell? ⟨g, 2, none⟩ = some (.slice A rows.length c))
    (first | exact ⟨hbx, hrw⟩ | exact ⟨(hb3.cell HH.out).trans hbx, (hb3.cell HG.out).trans hrw⟩ | exact ⟨(hb0.cell HH.out).trans hbx, (hb0.cell HG.out).trans hrw⟩)
    (first
      | (go_at_call 47; refine (behind_calls 1 _).mono ?_; rintro e w1 ⟨rfl, hq, hlt, hb⟩; have hb0 : Below w.heap.size w w1 := ⟨hb.os, hb.tape, hb.output, hb.size, hb.block⟩)
      | (go_at_call 46; refine (HGR.out _ _ hb0 hq hlt).mono ?_; rintro e w2 ⟨rfl, hb2⟩; have hb3 : Below w.heap.size w w2 := below_step hb0 hb2))
  go_wp2_with fail
  go_ret
  exact ⟨rfl, hb3⟩
theorem end_calls {w : World} {base g h : Nat} {d : Int} {rows : List (List ByteArray)} (H : St w base g h d 0 rows) (hf : GridFits fromOne rows) :
    Calls Tryz.prog 44 #[.pointer (some ⟨g, 0, none⟩), .func (.func 45) #[] #[.pointer (some ⟨h, 0, none⟩)]] w fun en w' =>
      en = .returned (.tuple #[.string ⟨(gridText fromOne rows).toArray⟩, .int .i64 0]) ∧ Below w.heap.size w w' := by
  obtain ⟨vr, h1, h2⟩ := H.sh.ex
  have hy : w.cell? ⟨g, 1, none⟩ = some (.int .i64 0) := blk_cell h1 1
  have HH := Aside0.mk H
  have HF := Aside0.mk hf
  clear H hf h1 h2
  have hrun := func_run (fn := Tryz.f45) (P := Tryz.prog) (f := 45) (by kernel_rfl) (by kernel_rfl) (by kernel_rfl)
  go_enter Tryz.func44, Tryz.ntmps44
  go_wp2_with fail
  refine (text_calls HH.out HF.out).mono ?_
  rintro en w1 ⟨rfl, hb⟩
  have HB := Aside0.mk hb
  clear hb
  go_wp2_with fail
  go_ret2
  exact ⟨rfl, HB.out⟩
end Go.Proofs.YtmimninicegjcaaGreatDoor

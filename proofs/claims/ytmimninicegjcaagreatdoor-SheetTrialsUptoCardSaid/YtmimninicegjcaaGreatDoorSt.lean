/- SheetTrials: of every list of columns and every number of digits (of bulk at most 1048576) the law returns true and leaves its arguments as they were. Conditions: the bound on the bulk; the listed tables hold what the program's text lays (tied by the card). -/
import Derived.Test.YtmimninicegjcaaGreatDoorCards
import Derived.Test.YtmimninicegjcaaGreatDoorTie
import Derived.ProofKit
import Derived.OpenShut
import Derived.ChangeOld
import Derived.Deep.DeepHandedRow
import Derived.Lib.LaidTab
import Derived.Stop.LaidErr
import Derived.Shelf.Vars
import Derived.Test.YtmimninicegjcaaGreatDoorStOpen
import Derived.Test.YtmimninicegjcaaGreatDoorStPureK
namespace Go.Proofs.YtmimninicegjcaaGreatDoor.sheetTrials
open Go.ChangeShapes Go.WideShapes Go.ChangeAt Go.RowKit Go.Proofs.YtmimninicegjcaaGreatDoorW.PrintWords
set_option linter.unusedVariables false
theorem own : ownKnob Tryz.prog.godebug = none := by kernel_rfl
theorem laidOut : laidOutB Tryz.prog = true := by kernel_rfl
theorem globType : (Tryz.prog.globals[1]?).map (·.type) = some 282 := by kernel_rfl
theorem cellsT : Tryz.prog.cellsOf 282 = 20 := by kernel_rfl
theorem cellsE : Tryz.prog.cellsOf 153 = 1 := by kernel_rfl
/-- What the row's list and the world's shape give. -/
theorem laid_of {W : World} (h : laidMetH Tryz.prog Rows.sheetTrialsUptoRow.laid W) (hsh : W.ShapedOpen Tryz.prog) : Laid W := by
  have h1 : laidMet Tryz.prog Rows.sheetTrialsUptoRow.laid W := h
  have h2 := laidMet.tail (laidMet.tail h1)
  refine ⟨Lib.tabIs_of_head globPow globType Tryz.underlying282 Tryz.underlying153 cellsE cellsT h2, ?_, ?_⟩
  · exact cell_of_shapedOpen_int (P := Tryz.prog) (g := 0) (t := 3) (zero := #[.int .i64 0]) (k := .i64) hsh (of_decide_eq_true (by kernel_rfl)) (by kernel_rfl) rfl (by kernel_rfl) (by kernel_rfl) Tryz.underlying3
  · obtain ⟨cs, hh, _⟩ := hsh.1 6 (Array.replicate 64 (.int .u8 0)) 310 (of_decide_eq_true (by kernel_rfl)) (by kernel_rfl)
    have := (Array.getElem?_eq_some_iff.1 hh).1
    omega
/-- A column as it is read. -/
theorem opens_col : Opn.Opens Tryz.prog 31 QT.k31 (fun n c => (∃ m, m + 1 ≤ n ∧ c.f0.size + 1 ≤ m) ∧ isI64 c.f1 ∧ isI64 c.f2) := by
  have h := Opn.struct (P := Tryz.prog) (t := 31) Tryz.underlying31 (d := Kd.pair Kd.string (Kd.pair (Kd.int .i64) (Kd.int .i64))) (by kernel_rfl)
    (Opn.field rfl (by kernel_rfl) (Opn.str Tryz.underlying9) (Opn.field rfl (by kernel_rfl) (Opn.int Tryz.underlying2) (Opn.lastField rfl (by kernel_rfl) (Opn.int Tryz.underlying2))))
  refine Opn.weaken (Opn.iso (f := fun x : Col => (x.f0, x.f1, x.f2)) (fun y => ⟨y.1, y.2.1, y.2.2⟩) (fun _ => rfl) h) ?_
  rintro n v ⟨m, hm, a, b, hab, ha, c, e, hce, ⟨_, hc⟩, _, he⟩
  refine ⟨⟨m, hm, by simp only at ha; omega⟩, ?_, ?_⟩
  · have : -9223372036854775808 ≤ v.f1 ∧ v.f1 ≤ 9223372036854775807 := by simpa [Lit.wf, IntKind.min, IntKind.max, IntKind.signed, IntKind.bits] using hc
    unfold isI64; omega
  · have : -9223372036854775808 ≤ v.f2 ∧ v.f2 ≤ 9223372036854775807 := by simpa [Lit.wf, IntKind.min, IntKind.max, IntKind.signed, IntKind.bits] using he
    unfold isI64; omega
set_option maxRecDepth 100000 in
theorem contract (H : Type) (enc : TypeId × Value → H) (W : World) (base : Nat) (args : Array Value) (ds gs : List (DataW H)) (before : List MemPlace)
    (hval : ∀ (j : Nat) t v, Tryz.f3.params[j]? = some t → args[j]? = some v → Value.okWide Tryz.prog W .any base t v)
    (hW : DataW.Whole enc Tryz.prog Tryz.f3.params.toList Rows.sheetTrialsSpec.vars false W args.toList ds gs before) (hk : Rows.uptoSmall H (ds ++ gs) = true)
    (hL : laidMetH Tryz.prog Rows.sheetTrialsUptoRow.laid W) (hsh : W.ShapedOpen Tryz.prog) :
    Calls Tryz.prog 3 args W fun e W' => ∃ v, e = .returned v ∧ Rows.sheetTrialsSpec.post enc Tryz.prog Tryz.f3 false true false false W args v W' := by
  have hLd := laid_of hL hsh
  have hW' := hW
  obtain ⟨p, q, hA0, hV, rfl, hfz, hnd⟩ := hW
  have hA : DataW.TrodAll enc Tryz.prog W 0 (fun _ => true) true Tryz.f3.params.toList args.toList ds p := hA0
  rw [Tryz.params3] at hA hval
  obtain ⟨v0, vs0, d0, ds0, p0, q0, hargs, rfl, rfl, h0, r0⟩ := trodAll_cons hA
  obtain ⟨v1, vs1, d1, ds1, p1, q1, rfl, rfl, rfl, h1, r1⟩ := trodAll_cons r0
  obtain ⟨rfl, rfl, rfl⟩ := trodAll_nil r1
  obtain rfl : args = #[v0, v1] := by cases args; simp_all
  obtain ⟨rfl, rfl⟩ := trodVars_none hV
  obtain ⟨a1, rfl, rfl, rfl, w1⟩ := open_int Tryz.underlying3 (hval 1 3 v1 rfl rfl) h1
  obtain ⟨a0, len0, cap0, rfl⟩ := okWide_slice Tryz.underlying22 (hval 0 22 v0 rfl rfl)
  have k0 := h0
  have lt0 : ∀ x ∈ p0, x.block < W.heap.size := by obtain ⟨m, hm⟩ := k0; exact DataW.trod_lt m _ _ _ hm
  obtain ⟨fuel, hf⟩ := h0
  obtain ⟨l, ⟨A', c', hcs, hlc, hC⟩, hall⟩ := Opn.slice Tryz.underlying22 (by kernel_rfl) opens_col H enc W 0 _ true fuel _ _ hf
  simp only [List.append_nil] at hk hW'
  have hb : Rows.uptoBulkAll [d0, DataW.lit (H := H) (.int .i64 a1)] ≤ 1048576 := of_decide_eq_true hk
  simp only [Rows.uptoBulkAll, Rows.uptoBulk] at hb
  simp [Value.cells] at hcs
  obtain ⟨rfl, rfl, rfl⟩ := hcs
  clear hA0
  have hlen := hall.length
  simp only at hlen
  refine (law_true a0 cap0 l a1 W hC hlc hLd (by omega) (fun c hc => ?_) (fun c hc => ?_)).mono fun e W' ⟨he, bel⟩ => ?_
  · obtain ⟨m, hm, ⟨m2, hm2, hs⟩, _⟩ := hall.mem hc
    simp only at hm
    omega
  · obtain ⟨m, hm, _, hi⟩ := hall.mem hc
    exact hi
  · subst he
    exact ⟨_, rfl, _, _, _, [], _, [], hW', trodAll_mk1 (shut_bool Tryz.underlying4 _), (trodAll_cons_mk (Below.trod laidOut (by kernel_rfl) (of_decide_eq_true (by kernel_rfl)) k0 bel lt0) (trodAll_cons_mk (shut_int Tryz.underlying3 w1) trodAll_mk0)), rfl, bel.frame _, fun h => by cases h⟩
/-- A world for the witness: the settled one, the listed tables holding what their initialisers lay. -/
noncomputable def put (g : Nat) (cs : Array Value) (h : Array Obj) : Array Obj := h.modify g fun
  | .cells _ t frozen => .cells cs t frozen
  | o => o
def nums (k : IntKind) (l : List Int) : Array Value := (l.map fun n => Value.int k n).toArray
noncomputable def laidHeap (h : Array Obj) : Array Obj :=
  put 1 (nums .u64 Lib.pow10Tab)
    (put 3 (nums .u8 (Go.Pinned.utf8FirstZ.map Int.ofNat))
      (put 4 (nums .u8 [128, 191, 160, 191, 128, 159, 144, 191, 128, 143, 0, 0, 0, 0, 0, 0, 0, 0, 0, 0, 0, 0, 0, 0, 0, 0, 0, 0, 0, 0, 0, 0])
        (put 5 (nums .u8 [0, 1, 28, 2, 29, 14, 24, 3, 30, 22, 20, 15, 25, 17, 4, 8, 31, 27, 13, 23, 21, 19, 16, 7, 26, 12, 18, 6, 11, 5, 10, 9])
          (put 6 (nums .u8 [0, 1, 56, 2, 57, 49, 28, 3, 61, 58, 42, 50, 38, 29, 17, 4, 62, 47, 59, 36, 45, 43, 51, 22, 53, 39, 33, 30, 24, 18, 12, 5, 63, 55, 48, 27, 60, 41, 37, 16, 46, 35, 44, 21, 52, 32, 23, 11, 54, 26, 40, 15, 34, 20, 31, 10, 25, 14, 19, 9, 13, 8, 7, 6]) h))))
noncomputable def laidWorld (os : Os) : World :=
  { World.holding Tryz.prog os ⟨#[], #[], []⟩ with heap := laidHeap (World.holding Tryz.prog os ⟨#[], #[], []⟩).heap }
def wargs : Array Value := #[.slice none 0 0, .int .i64 0]
theorem laid_met (os : Os) : laidMet Tryz.prog Rows.sheetTrialsUptoRow.laid ((laidWorld os).forCall (fun _ _ => 0) ⟨#[], wargs, []⟩).memory :=
  laidMet_of_run' 8 (by kernel_rfl) (by kernel_rfl)
theorem reads (os : Os) {H : Type} (enc : TypeId × Value → H) : ∃ places, DataW.whole enc Tryz.prog ((laidWorld os).forCall (fun _ _ => 0) ⟨#[], wargs, []⟩).memory Tryz.f3.params.toList Rows.sheetTrialsSpec.vars false wargs.toList 8 = some ([.nil, .lit (.int .i64 0)], [], places) :=
  ⟨[], by kernel_rfl⟩
set_option maxRecDepth 100000 in
theorem liftedUpto (os : Os) (started : os.Started) (H : Type) (enc : TypeId × Value → H) (F : Stop.Interp) :
    ReturnsInHanded {} Tryz.checked os 3 .any ((Rows.OpenSpec.upto Rows.sheetTrialsSpec).preRow enc Tryz.prog Tryz.f3 Rows.sheetTrialsUptoRow.domain false Rows.sheetTrialsUptoRow.laid) (((Rows.OpenSpec.upto Rows.sheetTrialsSpec).at F).post enc Tryz.prog Tryz.f3 false true false false) := by
  obtain ⟨places, hx⟩ := reads os enc
  refine returnsInHanded_of_row (C := Tryz.checked) (s := Rows.OpenSpec.upto Rows.sheetTrialsSpec) own started (by kernel_rfl) Tryz.func3
    (witness_row_at (enc := enc) (C := Tryz.checked) false (laidWorld os) wargs rfl (by kernel_rfl) (by kernel_rfl) (by kernel_rfl)
      (OpenSpec.preRow_of_cond 8 hx (by kernel_rfl) (fun k hk => by cases hk; kernel_rfl) (by kernel_rfl) (laid_met os))) ?_
  intro W base args ds gs before hval hW _ hcond _ hL hsh _
  exact contract H enc W base args ds gs before hval hW (hcond _ rfl) hL hsh
theorem saidUpto : Rows.SheetTrialsUptoSaid :=
  OpenClaim.holds_of_cond 3 Tryz.f3 rfl rfl rfl rfl rfl rfl rfl ⟨rfl, rfl, rfl, rfl, rfl⟩ rfl rfl rfl rfl rfl (by kernel_rfl) Tryz.func3 (by kernel_rfl)
    (of_decide_eq_true (by kernel_rfl)) (by unfold Func.isWrapper; first | (rw [if_pos (by decide +kernel)]; kernel_rfl) | (rw [if_neg (by decide +kernel)]; exact ⟨rfl, rfl⟩))
    (fun os started H enc _ F => by rw [OpenClaim.pre_eq_preRow]; exact liftedUpto os started H enc F)
/-- No parameter wants a stand-in; the program's own looks are off. -/
theorem plain (f : FuncId) (fn : Func) (hf : Tryz.pinned.checked.prog.funcNamed "daybook/daybooklaw17.SheetTrials" = some f) (hfn : Tryz.pinned.checked.prog.funcs[f]? = some fn) :
    true = Tryz.pinned.checked.prog.looks [] ∧ ∀ (j : Nat) t, fn.params[j]? = some t → Tryz.pinned.checked.prog.wantsStandIn t = false := by
  obtain rfl : f = 3 := Option.some.inj ((show Tryz.prog.funcNamed "daybook/daybooklaw17.SheetTrials" = some 3 by kernel_rfl).symm.trans hf) |>.symm
  obtain rfl : fn = Tryz.f3 := (Option.some.inj (Tryz.func3.symm.trans hfn)).symm
  refine ⟨by kernel_rfl, fun j t ht => ?_⟩
  rw [Tryz.params3] at ht
  have hm : t = 22 ∨ t = 3 := by simpa using Array.mem_of_getElem? ht
  rcases hm with rfl | rfl
  · exact (show Tryz.prog.wantsStandIn 22 = false by kernel_rfl)
  · exact (show Tryz.prog.wantsStandIn 3 = false by kernel_rfl)
/-- The second form's card. -/
theorem cardUpto : Rows.SheetTrialsUptoCardSaid :=
  Claim7.holds_tied_plain_at .later [] _ _ _ _ saidUpto (fun _ h => by cases h) (by kernel_rfl) (fun _ h => by cases h) sheetTrialsUpto_row_tie rfl ⟨rfl, rfl⟩ (by kernel_rfl) rfl plain (by kernel_rfl)
end Go.Proofs.YtmimninicegjcaaGreatDoor.sheetTrials

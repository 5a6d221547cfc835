/- SheetTables: of every table and every number of digits (of bulk at most 1048576) the law returns true and leaves its arguments as they were. Conditions: the bound on the bulk; the listed tables hold what the program's text lays (tied by the card). -/
import Derived.Test.YtmimninicegjcaaGreatDoorCards
import Derived.Test.YtmimninicegjcaaGreatDoorTie
import Derived.ProofKit
import Derived.OpenShut
import Derived.ChangeOld
import Derived.Deep.DeepHandedRow
import Derived.Lib.LaidTab
import Derived.Stop.LaidErr
import Derived.Shelf.Vars
import Derived.Test.YtmimninicegjcaaGreatDoorTbLawTables
import Derived.Test.YtmimninicegjcaaGreatDoorTbOpen
namespace Go.Proofs.YtmimninicegjcaaGreatDoor.sheetTables
open Go.ChangeShapes Go.WideShapes Go.ChangeAt Go.RowKit Go.Proofs.YtmimninicegjcaaGreatDoorW.PrintWords
set_option linter.unusedVariables false
theorem own : ownKnob Tryz.prog.godebug = none := by kernel_rfl
theorem laidOut : laidOutB Tryz.prog = true := by kernel_rfl
theorem globType : (Tryz.prog.globals[1]?).map (·.type) = some 282 := by kernel_rfl
theorem cellsT : Tryz.prog.cellsOf 282 = 20 := by kernel_rfl
theorem cellsE : Tryz.prog.cellsOf 153 = 1 := by kernel_rfl
theorem globTypeM : (Tryz.prog.globals[2]?).map (·.type) = some 287 := by kernel_rfl
theorem cellsM : Tryz.prog.cellsOf 287 = 12 := by kernel_rfl
theorem cellsI : Tryz.prog.cellsOf 3 = 1 := by kernel_rfl
/-- What the row's list and the world's shape give. -/
theorem laid_of {W : World} (h : laidMetH Tryz.prog Rows.sheetTablesUptoRow.laid W) (hsh : W.ShapedOpen Tryz.prog) : LaidM W := by
  have h1 : laidMet Tryz.prog Rows.sheetTablesUptoRow.laid W := h
  have h2 := laidMet.tail (laidMet.tail h1)
  refine ⟨⟨Lib.tabIs_of_head globPow globType Tryz.underlying282 Tryz.underlying153 cellsE cellsT h2, ?_, ?_⟩, Lib.tabIs_of_head globMonths globTypeM Tryz.underlying287 Tryz.underlying3 cellsI cellsM (laidMet.tail (laidMet.tail h2))⟩
  · exact cell_of_shapedOpen_int (P := Tryz.prog) (g := 0) (t := 3) (zero := #[.int .i64 0]) (k := .i64) hsh (of_decide_eq_true (by kernel_rfl)) (by kernel_rfl) rfl (by kernel_rfl) (by kernel_rfl) Tryz.underlying3
  · obtain ⟨cs, hh, _⟩ := hsh.1 6 (Array.replicate 64 (.int .u8 0)) 310 (of_decide_eq_true (by kernel_rfl)) (by kernel_rfl)
    have := (Array.getElem?_eq_some_iff.1 hh).1
    omega
/-- A cell as it is read. -/
theorem opens_cell : Opn.Opens Tryz.prog 43 QS.k43 (fun n c => 4 ≤ n ∧ isI64 c.f1 ∧ c.f2.size + 1 ≤ n) := by
  have h := Opn.struct (P := Tryz.prog) (t := 43) Tryz.underlying43 (d := Kd.pair (Kd.int .i64) (Kd.pair (Kd.int .i64) Kd.string)) (by kernel_rfl)
    (Opn.field rfl (by kernel_rfl) (Opn.int (by first | exact Tryz.underlying3 | kernel_rfl)) (Opn.field rfl (by kernel_rfl) (Opn.int Tryz.underlying2) (Opn.lastField rfl (by kernel_rfl) (Opn.str Tryz.underlying9))))
  refine Opn.weaken (Opn.iso (f := fun x : Cel => (x.f0, x.f1, x.f2)) (fun y => ⟨y.1, y.2.1, y.2.2⟩) (fun _ => rfl) h) ?_
  rintro n v ⟨m, hm, a, b, hab, ⟨ha, _⟩, c, e, hce, ⟨hc1, hc⟩, he⟩
  simp only at hc he
  refine ⟨by omega, ?_, by omega⟩
  have : -9223372036854775808 ≤ v.f1 ∧ v.f1 ≤ 9223372036854775807 := by simpa [Lit.wf, IntKind.min, IntKind.max, IntKind.signed, IntKind.bits] using hc
  unfold isI64; omega
theorem sumTo_mul {f : Nat → Nat} {c : Nat} : ∀ n, (∀ i, i < n → c ≤ f i) → n * c ≤ Opn.sumTo f n
  | 0, _ => by simp
  | n + 1, h => by
    have := sumTo_mul n (fun i hi => h i (by omega))
    have := h n (by omega)
    rw [Nat.succ_mul]
    simp only [Opn.sumTo]
    omega
theorem allW_mul {α : Type} {q : Nat → α → Prop} {n c : Nat} {xs : List α} (h : Opn.AllW q n xs) (hq : ∀ m x, x ∈ xs → q m x → c ≤ m) : xs.length * c + 1 ≤ n := by
  obtain ⟨f, h1, h2, h3⟩ := h
  have := sumTo_mul (f := f) (c := c) xs.length (fun i hi => hq _ _ (List.getElem_mem hi) (h3 i hi))
  omega
def QCell (n : Nat) (c : Cel) : Prop := 4 ≤ n ∧ isI64 c.f1 ∧ c.f2.size + 1 ≤ n
theorem fits {types : List Int} {l : List (List Cel)} {qi : Nat → Int → Prop} {a b : Nat} (hab : a + b ≤ 1048575) (h1 : Opn.AllW qi a types) (h2 : Opn.AllW (Opn.AllW QCell) b l) : TableFits types l := by
  have ht := h1.length
  have hl := h2.length
  have hrow : ∀ r ∈ l, r.length * 4 + 2 ≤ b := fun r hr => by
    obtain ⟨m, hm, hq⟩ := h2.mem hr
    have := allW_mul (c := 4) hq (fun _ _ _ h => h.1)
    omega
  refine ⟨by omega, by omega, fun r hr => by have := hrow r hr; omega, fun h => ?_, fun r hr c hc => ?_⟩
  · have := allW_mul (c := types.length * 4 + 1) h2 (fun m r hr hq => by
      have := allW_mul (c := 4) hq (fun _ _ _ h => h.1)
      rw [h r hr] at this
      exact this)
    have e : l.length * (types.length * 4 + 1) = l.length * types.length * 4 + l.length := by rw [Nat.mul_add, Nat.mul_assoc, Nat.mul_one]
    omega
  · obtain ⟨m, hm, hq⟩ := h2.mem hr
    obtain ⟨m2, hm2, hq2⟩ := hq.mem hc
    exact ⟨hq2.2.1, by have := hq2.2.2; omega⟩
set_option maxRecDepth 100000 in
theorem contract (H : Type) (enc : TypeId × Value → H) (W : World) (base : Nat) (args : Array Value) (ds gs : List (DataW H)) (before : List MemPlace)
    (hval : ∀ (j : Nat) t v, Tryz.f4.params[j]? = some t → args[j]? = some v → Value.okWide Tryz.prog W .any base t v)
    (hW : DataW.Whole enc Tryz.prog Tryz.f4.params.toList Rows.sheetTablesSpec.vars false W args.toList ds gs before) (hk : Rows.uptoSmall H (ds ++ gs) = true)
    (hL : laidMetH Tryz.prog Rows.sheetTablesUptoRow.laid W) (hsh : W.ShapedOpen Tryz.prog) :
    Calls Tryz.prog 4 args W fun e W' => ∃ v, e = .returned v ∧ Rows.sheetTablesSpec.post enc Tryz.prog Tryz.f4 false true false false W args v W' := by
  have hLd := laid_of hL hsh
  have hW' := hW
  obtain ⟨p, q, hA0, hV, rfl, hfz, hnd⟩ := hW
  have hA : DataW.TrodAll enc Tryz.prog W 0 (fun _ => true) true Tryz.f4.params.toList args.toList ds p := hA0
  rw [Tryz.params4] at hA hval
  obtain ⟨v0, vs0, d0, ds0, p0, q0, hargs, rfl, rfl, h0, r0⟩ := trodAll_cons hA
  obtain ⟨v1, vs1, d1, ds1, p1, q1, rfl, rfl, rfl, h1, r1⟩ := trodAll_cons r0
  obtain ⟨rfl, rfl, rfl⟩ := trodAll_nil r1
  obtain rfl : args = #[v0, v1] := by cases args; simp_all
  obtain ⟨rfl, rfl⟩ := trodVars_none hV
  obtain ⟨a1, rfl, rfl, rfl, w1⟩ := open_int Tryz.underlying3 (hval 1 3 v1 rfl rfl) h1
  obtain ⟨cs0, rfl, hsz0⟩ := okWide_struct Tryz.underlying36 (hval 0 36 v0 rfl rfl)
  have k0 := h0
  have lt0 : ∀ x ∈ p0, x.block < W.heap.size := by obtain ⟨m, hm⟩ := k0; exact DataW.trod_lt m _ _ _ hm
  obtain ⟨fuel, hf⟩ := h0
  obtain ⟨⟨types, l⟩, hK, m, hm, na, nb, hab, hq1, hq2⟩ := Opn.struct (P := Tryz.prog) (t := 36) Tryz.underlying36 (d := Kd.pair (Kd.slice 3 (Kd.int .i64)) (Kd.slice 41 (Kd.slice 43 QS.k43))) (by kernel_rfl)
    (Opn.field rfl (by kernel_rfl) (Opn.slice Tryz.underlying33 (by kernel_rfl) (Opn.int Tryz.underlying3)) (Opn.lastField rfl (by kernel_rfl) (Opn.slice Tryz.underlying34 (by kernel_rfl) (Opn.slice Tryz.underlying41 (by kernel_rfl) opens_cell)))) H enc W 0 _ true fuel _ _ hf
  obtain ⟨x1, x2, hcs, ⟨A1, c1, rfl, hl1, hC1⟩, ⟨A2, c2, rfl, hl2, hC2⟩⟩ := hK
  simp only [List.append_nil] at hk hW'
  have hb : Rows.uptoBulkAll [d0, DataW.lit (H := H) (.int .i64 a1)] ≤ 1048576 := of_decide_eq_true hk
  simp only [Rows.uptoBulkAll, Rows.uptoBulk] at hb
  obtain rfl : cs0 = #[.slice A1 types.length c1, .slice A2 l.length c2] := by
    have h9 : cs0.toList = [.slice A1 types.length c1, .slice A2 l.length c2] := by simpa [Value.cells] using hcs
    exact Array.toList_inj.1 h9
  clear hA0
  have hm' : m + 1 ≤ Rows.uptoBulk d0 := hm
  clear hm
  simp only at hab hq1 hq2
  refine (tables_walk A1 c1 types A2 c2 l a1 W hC1 hl1 hC2 hl2 hLd (fits (a := na) (b := nb) (by omega) hq1 hq2)).mono fun e W' ⟨he, bel⟩ => ?_
  subst he
  exact ⟨_, rfl, _, _, _, [], _, [], hW', trodAll_mk1 (shut_bool Tryz.underlying4 _), (trodAll_cons_mk (Below.trod laidOut (by kernel_rfl) (of_decide_eq_true (by kernel_rfl)) k0 bel lt0) (trodAll_cons_mk (shut_int Tryz.underlying3 w1) trodAll_mk0)), rfl, bel.frame _, fun h => by cases h⟩
/-- A world for the witness: the settled one, the listed tables holding what their initialisers lay. -/
noncomputable def put (g : Nat) (cs : Array Value) (h : Array Obj) : Array Obj := h.modify g fun
  | .cells _ t frozen => .cells cs t frozen
  | o => o
def nums (k : IntKind) (l : List Int) : Array Value := (l.map fun n => Value.int k n).toArray
noncomputable def laidHeap (h : Array Obj) : Array Obj :=
  put 1 (nums .u64 Lib.pow10Tab) <| put 2 (nums .i64 monthTab)
    (put 3 (nums .u8 (Go.Pinned.utf8FirstZ.map Int.ofNat))
      (put 4 (nums .u8 [128, 191, 160, 191, 128, 159, 144, 191, 128, 143, 0, 0, 0, 0, 0, 0, 0, 0, 0, 0, 0, 0, 0, 0, 0, 0, 0, 0, 0, 0, 0, 0])
        (put 5 (nums .u8 [0, 1, 28, 2, 29, 14, 24, 3, 30, 22, 20, 15, 25, 17, 4, 8, 31, 27, 13, 23, 21, 19, 16, 7, 26, 12, 18, 6, 11, 5, 10, 9])
          (put 6 (nums .u8 [0, 1, 56, 2, 57, 49, 28, 3, 61, 58, 42, 50, 38, 29, 17, 4, 62, 47, 59, 36, 45, 43, 51, 22, 53, 39, 33, 30, 24, 18, 12, 5, 63, 55, 48, 27, 60, 41, 37, 16, 46, 35, 44, 21, 52, 32, 23, 11, 54, 26, 40, 15, 34, 20, 31, 10, 25, 14, 19, 9, 13, 8, 7, 6]) h))))
noncomputable def laidWorld (os : Os) : World :=
  { World.holding Tryz.prog os ⟨#[], #[], []⟩ with heap := laidHeap (World.holding Tryz.prog os ⟨#[], #[], []⟩).heap }
def wargs : Array Value := #[.agg #[.slice none 0 0, .slice none 0 0], .int .i64 0]
theorem laid_met (os : Os) : laidMet Tryz.prog Rows.sheetTablesUptoRow.laid ((laidWorld os).forCall (fun _ _ => 0) ⟨#[], wargs, []⟩).memory :=
  laidMet_of_run' 8 (by kernel_rfl) (by kernel_rfl)
theorem reads (os : Os) {H : Type} (enc : TypeId × Value → H) : ∃ places, DataW.whole enc Tryz.prog ((laidWorld os).forCall (fun _ _ => 0) ⟨#[], wargs, []⟩).memory Tryz.f4.params.toList Rows.sheetTablesSpec.vars false wargs.toList 8 = some ([.agg [.nil, .nil], .lit (.int .i64 0)], [], places) :=
  ⟨[], by kernel_rfl⟩
set_option maxRecDepth 100000 in
theorem liftedUpto (os : Os) (started : os.Started) (H : Type) (enc : TypeId × Value → H) (F : Stop.Interp) :
    ReturnsInHanded {} Tryz.checked os 4 .any ((Rows.OpenSpec.upto Rows.sheetTablesSpec).preRow enc Tryz.prog Tryz.f4 Rows.sheetTablesUptoRow.domain false Rows.sheetTablesUptoRow.laid) (((Rows.OpenSpec.upto Rows.sheetTablesSpec).at F).post enc Tryz.prog Tryz.f4 false true false false) := by
  obtain ⟨places, hx⟩ := reads os enc
  refine returnsInHanded_of_row (C := Tryz.checked) (s := Rows.OpenSpec.upto Rows.sheetTablesSpec) own started (by kernel_rfl) Tryz.func4
    (witness_row_at (enc := enc) (C := Tryz.checked) false (laidWorld os) wargs rfl (by kernel_rfl) (by kernel_rfl) (by kernel_rfl)
      (OpenSpec.preRow_of_cond 8 hx (by kernel_rfl) (fun k hk => by cases hk; kernel_rfl) (by kernel_rfl) (laid_met os))) ?_
  intro W base args ds gs before hval hW _ hcond _ hL hsh _
  exact contract H enc W base args ds gs before hval hW (hcond _ rfl) hL hsh
theorem saidUpto : Rows.SheetTablesUptoSaid :=
  OpenClaim.holds_of_cond 4 Tryz.f4 rfl rfl rfl rfl rfl rfl rfl ⟨rfl, rfl, rfl, rfl, rfl⟩ rfl rfl rfl rfl rfl (by kernel_rfl) Tryz.func4 (by kernel_rfl)
    (of_decide_eq_true (by kernel_rfl)) (by unfold Func.isWrapper; first | (rw [if_pos (by decide +kernel)]; kernel_rfl) | (rw [if_neg (by decide +kernel)]; exact ⟨rfl, rfl⟩))
    (fun os started H enc _ F => by rw [OpenClaim.pre_eq_preRow]; exact liftedUpto os started H enc F)
/-- No parameter wants a stand-in; the program's own looks are off. -/
theorem plain (f : FuncId) (fn : Func) (hf : Tryz.pinned.checked.prog.funcNamed "daybook/daybooklaw17.SheetTables" = some f) (hfn : Tryz.pinned.checked.prog.funcs[f]? = some fn) :
    true = Tryz.pinned.checked.prog.looks [] ∧ ∀ (j : Nat) t, fn.params[j]? = some t → Tryz.pinned.checked.prog.wantsStandIn t = false := by
  obtain rfl : f = 4 := Option.some.inj ((show Tryz.prog.funcNamed "daybook/daybooklaw17.SheetTables" = some 4 by kernel_rfl).symm.trans hf) |>.symm
  obtain rfl : fn = Tryz.f4 := (Option.some.inj (Tryz.func4.symm.trans hfn)).symm
  refine ⟨by kernel_rfl, fun j t ht => ?_⟩
  rw [Tryz.params4] at ht
  have hm : t = 36 ∨ t = 3 := by simpa using Array.mem_of_getElem? ht
  rcases hm with rfl | rfl
  · exact (show Tryz.prog.wantsStandIn 36 = false by kernel_rfl)
  · exact (show Tryz.prog.wantsStandIn 3 = false by kernel_rfl)
/-- The second form's card. -/
theorem cardUpto : Rows.SheetTablesUptoCardSaid :=
  Claim7.holds_tied_plain_at .later [] _ _ _ _ saidUpto (fun _ h => by cases h) (by kernel_rfl) (fun _ h => by cases h) sheetTablesUpto_row_tie rfl ⟨rfl, rfl⟩ (by kernel_rfl) rfl plain (by kernel_rfl)
end Go.Proofs.YtmimninicegjcaaGreatDoor.sheetTables

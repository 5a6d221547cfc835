/- Part of the proof of RowTables: LeafR, LeafR2. -/
import Derived.Deep.QuietTactic
import Derived.BigQuiet
import Derived.Deep.RegionHeld3
import Derived.Outline
import Derived.Test.YtmimninicegjcaaGreatDoorTbLeafC
import Derived.Test.YtmimninicegjcaaGreatDoorTbQT2
/- daybookref01.Sum: numbers of 192 bits in six words. -/
namespace Go.Proofs.YtmimninicegjcaaGreatDoor
open Go.RowKit Go.Shelf Go.Lib Go.Proofs.YtmimninicegjcaaGreatDoorW.PrintWords Go.Proofs.YtmimninicegjcaaGreatDoorW.PrintLast Go.Proofs.YtmimninicegjcaaGreatDoorW.PrintMore
set_option linter.unusedVariables false
set_option linter.unusedSimpArgs false
/-! ### words of 32 bits -/
def wb (i : Nat) : Nat := 4294967296 ^ i
def dg (X : Nat) (i : Nat) : Nat := X / wb i % 4294967296
theorem blk_far {W : World} {g k j : Nat} {o : Obj} {v : Value} (h : W.heap[g]? = some o) (hne : g ≠ k) : (W.setCell ⟨k, j, none⟩ v).heap[g]? = some o := (Below.heap_setCell W ⟨k, j, none⟩ v g hne).trans h
end Go.Proofs.YtmimninicegjcaaGreatDoor
/- daybookref01: Of, Below, amount, Is. -/
namespace Go.Proofs.YtmimninicegjcaaGreatDoor
open Go.RowKit Go.Shelf Go.Lib Go.Proofs.YtmimninicegjcaaGreatDoorW.PrintWords Go.Proofs.YtmimninicegjcaaGreatDoorW.PrintLast Go.Proofs.YtmimninicegjcaaGreatDoorW.PrintMore
set_option linter.unusedVariables false
set_option linter.unusedSimpArgs false
/-- A number of two words. -/
def two (x y : Nat) : Nat → Nat := fun j => if j = 0 then x else if j = 1 then y else 0
end Go.Proofs.YtmimninicegjcaaGreatDoor

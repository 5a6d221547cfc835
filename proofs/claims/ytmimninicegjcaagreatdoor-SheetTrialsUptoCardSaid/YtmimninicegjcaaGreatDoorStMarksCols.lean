/- The marks behind a list of columns. -/
import Derived.Test.YtmimninicegjcaaGreatDoorStQT2
import Derived.Test.YtmimninicegjcaaGreatDoorStQT7
namespace Go.Proofs.YtmimninicegjcaaGreatDoor
open Go.RowKit Go.Shelf Go.Lib Go.Proofs.YtmimninicegjcaaGreatDoorW.PrintWords Go.Proofs.YtmimninicegjcaaGreatDoorW.PrintLast
set_option linter.unusedVariables false
def markC (j : Nat) : QT.S31 := match QT.daybookkeep_markColumns.f 700000 (j : Int) with
  | some t => ⟨t.1, t.2.1, t.2.2⟩
  | none => ⟨⟨#[]⟩, 0, 0⟩
theorem marks_there : ∀ j : Fin 64, (QT.daybookkeep_markColumns.f 700000 ((j : Nat) : Int)).isSome = true := by decide +kernel
theorem markC_some {j : Nat} (h : j < 64) : QT.daybookkeep_markColumns.f 700000 (j : Int) = some ((markC j).f0, (markC j).f1, (markC j).f2) := by
  have h2 := marks_there ⟨j, h⟩
  simp only at h2
  obtain ⟨t, ht⟩ := Option.isSome_iff_exists.1 h2
  unfold markC
  rw [ht]
def marksC (n : Nat) : List QT.S31 := (List.range n).map markC
theorem marksC_length (n : Nat) : (marksC n).length = n := by simp [marksC]
theorem marksC_succ (n : Nat) : marksC (n + 1) = marksC n ++ [markC n] := by simp [marksC, List.range_succ]
theorem same_refl (c : QT.S31) : QT.daybookkeep_sameColumns.f c.f0 c.f1 c.f2 c.f0 c.f1 c.f2 = some true := by
  simp [QT.daybookkeep_sameColumns.f]
end Go.Proofs.YtmimninicegjcaaGreatDoor

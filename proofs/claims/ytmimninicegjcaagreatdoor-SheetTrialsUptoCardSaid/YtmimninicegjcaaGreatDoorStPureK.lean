/- SheetTrials returns true of every list of columns, and leaves the elder memory alone. -/
import Derived.Test.YtmimninicegjcaaGreatDoorStMColsLawTrials
import Derived.Test.YtmimninicegjcaaGreatDoorStPureJ
namespace Go.Proofs.YtmimninicegjcaaGreatDoor
open Go.RowKit Go.Shelf Go.Lib Go.Proofs.YtmimninicegjcaaGreatDoorW.PrintWords Go.Proofs.YtmimninicegjcaaGreatDoorW.PrintLast
set_option linter.unusedVariables false
theorem colOk_all {l : List Col} (hi : ∀ c ∈ l, isI64 c.f1 ∧ isI64 c.f2) : l.all colOk = true := by
  rw [List.all_eq_true]
  intro c hc
  unfold colOk
  simp [(hi c hc).1, (hi c hc).2]
theorem law_true (A : Option Addr) (cp : Nat) (l : List Col) (d : Int) (w : World) (hr : Kd.C QT.k31 w A l.length l) (hc : l.length ≤ cp) (hL : Laid w) (hn : l.length ≤ 1048576) (hs : ∀ c ∈ l, c.f0.size ≤ 1048576) (hi : ∀ c ∈ l, isI64 c.f1 ∧ isI64 c.f2) :
    Calls Tryz.prog 3 #[.slice A l.length cp, .int .i64 d] w fun en w' => en = .returned (.bool true) ∧ Below w.heap.size w w' := by
  obtain ⟨z, hz⟩ : ∃ z : Col, z = ⟨⟨#[90, 122]⟩, 3, 0⟩ := ⟨_, rfl⟩
  obtain ⟨now, hnow⟩ : ∃ now, now = if 0 < l.length then l.set (l.length / 2) z else l := ⟨_, rfl⟩
  have hnl : now.length = l.length := by rw [hnow]; split <;> simp
  have hmem : ∀ c ∈ now, c ∈ l ∨ c = z := by
    intro c hcm
    rw [hnow] at hcm
    split at hcm
    · exact (List.mem_or_eq_of_mem_set hcm)
    · exact .inl hcm
  have hs2 : ∀ c ∈ now, c.f0.size ≤ 1048576 := fun c hcm => by
    rcases hmem c hcm with h | h
    · exact hs c h
    · rw [h, hz]; show (2 : Nat) ≤ 1048576; omega
  have hi2 : ∀ c ∈ now, isI64 c.f1 ∧ isI64 c.f2 := fun c hcm => by
    rcases hmem c hcm with h | h
    · exact hi c h
    · rw [h, hz]; show isI64 3 ∧ isI64 0; unfold isI64; omega
  obtain ⟨K1, h1⟩ := trial_ref l d hn hs hi
  obtain ⟨K2, h2⟩ := trial_ref now d (by omega) hs2 hi2
  obtain ⟨k, hk⟩ : ∃ k, k = K1 + K2 + l.length + 65 := ⟨_, rfl⟩
  have hset : (if 0 < l.length then (l ++ marksC 64).set (l.length / 2) z else l ++ marksC 64) = now ++ marksC 64 := by
    rw [hnow]
    split
    · rw [List.set_append_left _ _ (by omega)]
    · rfl
  refine law_walk k A cp l (l ++ marksC 64) now d w hr hc hL hn (trialOut l d).1 (trialOut l d).2 (trialOut now d).1 (trialOut now d).2
    (room_some l hn k (by omega)) (by simp) (by rw [List.length_append, marksC_length]; omega)
    (by unfold H_Trial.f; rw [if_pos ⟨hn, colOk_all hi⟩]) (h1 k (by omega)) (like_refl _ _) (keptOk l hn) first_true (by rw [hnow, hz])
    (by unfold H_Trial.f; rw [if_pos ⟨by omega, colOk_all hi2⟩]) (h2 k (by omega)) (like_refl _ _) ?_
  have e : (if 0 < l.length then (l ++ marksC 64).set (l.length / 2) ⟨⟨#[90, 122]⟩, 3, 0⟩ else l ++ marksC 64) = now ++ marksC 64 := by rw [← hset, hz]
  rw [e]
  exact keptOk now (by omega)
end Go.Proofs.YtmimninicegjcaaGreatDoor

-- Written by a program of this session (wip/myprint.py, which drives the kit's print with hand-proved leaves). Not trusted: Lean checks it.
import Derived.Test.YtmimninicegjcaaGreatDoorStLeafR4
import Derived.Test.YtmimninicegjcaaGreatDoorStQT0
import Derived.Test.YtmimninicegjcaaGreatDoorStQT3
import Derived.Test.YtmimninicegjcaaGreatDoorStQT4
import Derived.Test.YtmimninicegjcaaGreatDoorStQT5
namespace Go.Proofs.YtmimninicegjcaaGreatDoor.QT
open Go.RowKit Go.Proofs.YtmimninicegjcaaGreatDoorW.PrintWords Go.Proofs.YtmimninicegjcaaGreatDoorW.PrintLast Go.Proofs.YtmimninicegjcaaGreatDoorW.PrintMore
attribute [local go_sem] max2_int min2_int max_two min_two max_three min_three max_four min_four   -- for this text's walks alone
set_option linter.unusedVariables false
set_option linter.unusedSimpArgs false

theorem fk_row6 {α : Type} {d : Kd α} {e e' base n c : Nat} {ok : Nat → Prop} {w : World} {A : Option Addr} {xs : List α} (h : d.R e w base ok (.slice A n c) xs) : Kd.FK (Kd.slice e' d) w ok xs [.slice A n c] := fun W' hW => by
  have h2 := Kd.R_F h W' hW
  obtain ⟨hn, hl, _⟩ := Kd.R_reads' h
  rw [hn] at h2 hl ⊢
  exact ⟨A, c, rfl, hl, h2⟩

/-! ### daybookref17_Trial: function 11 -/
mutual
def daybookref17_Trial.l0 : Nat → List (S31) → Int → List Int → List Int → List (List ByteArray) → Int → Option (ByteArray × Int)
  | 0, _, _, _, _, _, _ => none
  | k + 1, x0, x1, x6, x7, x8, x9 => if x9 < (x0.length : Int) then (if 0 ≤ x9 then ((daybookref05_Name.f k ((rd_T31 x0 x9).f0)).bind fun t155 => (if t155 = true then (if ((rd_T31 x0 x9).f1) < 0 then (daybookref17_Trial.j1 k x0 x1 x6 x7 x8 x9 true ((rd_T31 x0 x9).f0) ((rd_T31 x0 x9).f1) ((rd_T31 x0 x9).f2)) else (daybookref17_Trial.j1 k x0 x1 x6 x7 x8 x9 (decide (((rd_T31 x0 x9).f2) < 0)) ((rd_T31 x0 x9).f0) ((rd_T31 x0 x9).f1) ((rd_T31 x0 x9).f2))) else (some ((⟨#[]⟩ : ByteArray), 60)))) else (none)) else ((L_RefSum.f x6).bind fun bt183 => ((L_RefSum.f x7).bind fun bt185 => (if bt183.2 = 0 then (daybookref17_Trial.j2 k x1 x8 bt183.1 bt185.1 (bt185.2 != 0)) else (daybookref17_Trial.j2 k x1 x8 bt183.1 bt185.1 true))))
def daybookref17_Trial.j1 : Nat → List (S31) → Int → List Int → List Int → List (List ByteArray) → Int → Bool → ByteArray → Int → Int → Option (ByteArray × Int)
  | 0, _, _, _, _, _, _, _, _, _, _ => none
  | k + 1, x0, x1, x6, x7, x8, x9, x42, x155000, x155001, x155002 => if x42 = true then (some ((⟨#[]⟩ : ByteArray), 10)) else (if x6.length < 17592186044416 then ((some (x6 ++ [x155001] : List Int)).bind fun y156 => (if x7.length < 17592186044416 then ((some (x7 ++ [x155002] : List Int)).bind fun y159 => ((some (([x155000, (⟨#[]⟩ : ByteArray), (⟨#[]⟩ : ByteArray)] : List ByteArray) : List ByteArray)).bind fun y162 => (if x155001 > 0 then ((daybookref17_money.f k x155001 x1).bind fun t165 => (if 1 < (y162.length : Int) then ((some (y162.set (1 : Int).toNat t165 : List ByteArray)).bind fun y166 => (if x155002 > 0 then ((daybookref17_money.f k x155002 x1).bind fun t167 => (if 2 < (y162.length : Int) then (if x8.length < 5864062014805 then (daybookref17_Trial.l0 k x0 x1 y156 y159 (x8 ++ [(y166.set (2 : Int).toNat t167)]) (wrap64 (x9 + 1))) else (none)) else (none))) else (if x8.length < 5864062014805 then (daybookref17_Trial.l0 k x0 x1 y156 y159 (x8 ++ [y166]) (wrap64 (x9 + 1))) else (none)))) else (none))) else (if x155002 > 0 then ((daybookref17_money.f k x155002 x1).bind fun t175 => (if 2 < (y162.length : Int) then (if x8.length < 5864062014805 then (daybookref17_Trial.l0 k x0 x1 y156 y159 (x8 ++ [(y162.set (2 : Int).toNat t175)]) (wrap64 (x9 + 1))) else (none)) else (none))) else (if x8.length < 5864062014805 then (daybookref17_Trial.l0 k x0 x1 y156 y159 (x8 ++ [y162]) (wrap64 (x9 + 1))) else (none)))))) else (none))) else (none))
def daybookref17_Trial.j2 : Nat → Int → List (List ByteArray) → Int → Int → Bool → Option (ByteArray × Int)
  | 0, _, _, _, _, _ => none
  | k + 1, x1, x8, x12, x14, x93 => if x93 = true then (some ((⟨#[]⟩ : ByteArray), 11)) else ((daybookref17_money.f k x12 x1).bind fun t187 => ((daybookref17_money.f k x14 x1).bind fun t188 => (if x8.length < 5864062014805 then ((daybookref17_Grid.f k (x8 ++ [(([(⟨#[83, 117, 109]⟩ : ByteArray), t187, t188] : List ByteArray))]) (([false, true, true] : List Bool))).bind fun t198 => (some (t198, 0))) else (none))))
end
def daybookref17_Trial.f (k : Nat) (l0 : List (S31)) (a1 : Int) : Option (ByteArray × Int) := (daybookref17_digits.f a1).bind fun t146 => (if t146 = true then (daybookref17_Trial.l0 k l0 a1 ([] : List Int) ([] : List Int) (([(([(⟨#[65, 99, 99, 111, 117, 110, 116]⟩ : ByteArray), (⟨#[68, 101, 98, 105, 116]⟩ : ByteArray), (⟨#[67, 114, 101, 100, 105, 116]⟩ : ByteArray)] : List ByteArray))] : List (List ByteArray))) 0) else (some ((⟨#[]⟩ : ByteArray), 1)))
theorem daybookref17_Trial.mono_l : ∀ k, (∀ y0 y1 y2 y3 y4 y5, LeO (daybookref17_Trial.l0 k y0 y1 y2 y3 y4 y5) (daybookref17_Trial.l0 (k + 1) y0 y1 y2 y3 y4 y5)) ∧ (∀ y0 y1 y2 y3 y4 y5 y6 y7 y8 y9, LeO (daybookref17_Trial.j1 k y0 y1 y2 y3 y4 y5 y6 y7 y8 y9) (daybookref17_Trial.j1 (k + 1) y0 y1 y2 y3 y4 y5 y6 y7 y8 y9)) ∧ (∀ y0 y1 y2 y3 y4, LeO (daybookref17_Trial.j2 k y0 y1 y2 y3 y4) (daybookref17_Trial.j2 (k + 1) y0 y1 y2 y3 y4))
  | 0 => ⟨fun _ _ _ _ _ _ r h => by simp [daybookref17_Trial.l0] at h, fun _ _ _ _ _ _ _ _ _ _ r h => by simp [daybookref17_Trial.j1] at h, fun _ _ _ _ _ r h => by simp [daybookref17_Trial.j2] at h⟩
  | k + 1 => by
    obtain ⟨ih0, ih1, ih2⟩ := daybookref17_Trial.mono_l k
    refine ⟨?_, ?_, ?_⟩
    · intro y0 y1 y2 y3 y4 y5
      unfold daybookref17_Trial.l0
      repeat' first
      | (with_reducible exact ih0 _ _ _ _ _ _)
      | (with_reducible exact ih1 _ _ _ _ _ _ _ _ _ _)
      | (with_reducible exact ih2 _ _ _ _ _)
      | (with_reducible exact daybookref05_Name.mono _ _)
      | (with_reducible exact daybookref17_Grid.mono _ _ _)
      | (with_reducible exact daybookref17_money.mono _ _ _)
      | (with_reducible exact LeO.refl _)
      | (with_reducible exact LeO.none _)
      | (with_reducible refine LeO.ite ?_ ?_)
      | (with_reducible refine LeO.bind ?_ (fun _ => ?_))
      | exact ih0 _ _ _ _ _ _
      | exact ih1 _ _ _ _ _ _ _ _ _ _
      | exact ih2 _ _ _ _ _
      | exact daybookref05_Name.mono _ _
      | exact daybookref17_Grid.mono _ _ _
      | exact daybookref17_money.mono _ _ _
      | exact LeO.none _
      | refine LeO.ite ?_ ?_
      | refine LeO.bind ?_ (fun _ => ?_)
    · intro y0 y1 y2 y3 y4 y5 y6 y7 y8 y9
      unfold daybookref17_Trial.j1
      repeat' first
      | (with_reducible exact ih0 _ _ _ _ _ _)
      | (with_reducible exact ih1 _ _ _ _ _ _ _ _ _ _)
      | (with_reducible exact ih2 _ _ _ _ _)
      | (with_reducible exact daybookref05_Name.mono _ _)
      | (with_reducible exact daybookref17_Grid.mono _ _ _)
      | (with_reducible exact daybookref17_money.mono _ _ _)
      | (with_reducible exact LeO.refl _)
      | (with_reducible exact LeO.none _)
      | (with_reducible refine LeO.ite ?_ ?_)
      | (with_reducible refine LeO.bind ?_ (fun _ => ?_))
      | exact ih0 _ _ _ _ _ _
      | exact ih1 _ _ _ _ _ _ _ _ _ _
      | exact ih2 _ _ _ _ _
      | exact daybookref05_Name.mono _ _
      | exact daybookref17_Grid.mono _ _ _
      | exact daybookref17_money.mono _ _ _
      | exact LeO.none _
      | refine LeO.ite ?_ ?_
      | refine LeO.bind ?_ (fun _ => ?_)
    · intro y0 y1 y2 y3 y4
      unfold daybookref17_Trial.j2
      repeat' first
      | (with_reducible exact ih0 _ _ _ _ _ _)
      | (with_reducible exact ih1 _ _ _ _ _ _ _ _ _ _)
      | (with_reducible exact ih2 _ _ _ _ _)
      | (with_reducible exact daybookref05_Name.mono _ _)
      | (with_reducible exact daybookref17_Grid.mono _ _ _)
      | (with_reducible exact daybookref17_money.mono _ _ _)
      | (with_reducible exact LeO.refl _)
      | (with_reducible exact LeO.none _)
      | (with_reducible refine LeO.ite ?_ ?_)
      | (with_reducible refine LeO.bind ?_ (fun _ => ?_))
      | exact ih0 _ _ _ _ _ _
      | exact ih1 _ _ _ _ _ _ _ _ _ _
      | exact ih2 _ _ _ _ _
      | exact daybookref05_Name.mono _ _
      | exact daybookref17_Grid.mono _ _ _
      | exact daybookref17_money.mono _ _ _
      | exact LeO.none _
      | refine LeO.ite ?_ ?_
      | refine LeO.bind ?_ (fun _ => ?_)
theorem daybookref17_Trial.mono : ∀ a0 a1 k, LeO (daybookref17_Trial.f k a0 a1) (daybookref17_Trial.f (k + 1) a0 a1) := by
  intro a0 a1 k
  obtain ⟨ih0, ih1, ih2⟩ := daybookref17_Trial.mono_l k
  unfold daybookref17_Trial.f
  repeat' first
      | (with_reducible exact ih0 _ _ _ _ _ _)
      | (with_reducible exact ih1 _ _ _ _ _ _ _ _ _ _)
      | (with_reducible exact ih2 _ _ _ _ _)
      | (with_reducible exact daybookref05_Name.mono _ _)
      | (with_reducible exact daybookref17_Grid.mono _ _ _)
      | (with_reducible exact daybookref17_money.mono _ _ _)
      | (with_reducible exact LeO.refl _)
      | (with_reducible exact LeO.none _)
      | (with_reducible refine LeO.ite ?_ ?_)
      | (with_reducible refine LeO.bind ?_ (fun _ => ?_))
      | exact ih0 _ _ _ _ _ _
      | exact ih1 _ _ _ _ _ _ _ _ _ _
      | exact ih2 _ _ _ _ _
      | exact daybookref05_Name.mono _ _
      | exact daybookref17_Grid.mono _ _ _
      | exact daybookref17_money.mono _ _ _
      | exact LeO.none _
      | refine LeO.ite ?_ ?_
      | refine LeO.bind ?_ (fun _ => ?_)
set_option maxHeartbeats 8000000 in
set_option maxRecDepth 100000 in
theorem daybookref17_Trial.calls (k : Nat) (A0 : Option Addr) (c0 : Nat) (l0 : List (S31)) (a1 : Int) (r1 : ByteArray) (r2 : Int) (w : World) (hr0 : Kd.C k31 w A0 l0.length l0) (hc0 : l0.length ≤ c0) (h : daybookref17_Trial.f k l0 a1 = some (r1, r2)) :
    Calls Tryz.prog 11 #[.slice A0 l0.length c0, .int .i64 a1] w fun e w' => e = .returned (.tuple #[.string r1, .int .i64 r2]) ∧ Below w.heap.size w w' := by
  have hu31 := Tryz.underlying31
  have HR0 := Aside0.mk hr0
  have HC0 := Aside0.mk hc0
  clear hr0 hc0
  have HB := Aside0.mk (Below.refl w.heap.size w)
  have H : ((daybookref17_digits.f a1).bind fun t146 => (if t146 = true then (daybookref17_Trial.l0 k l0 a1 ([] : List Int) ([] : List Int) (([(([(⟨#[65, 99, 99, 111, 117, 110, 116]⟩ : ByteArray), (⟨#[68, 101, 98, 105, 116]⟩ : ByteArray), (⟨#[67, 114, 101, 100, 105, 116]⟩ : ByteArray)] : List ByteArray))] : List (List ByteArray))) 0) else (some ((⟨#[]⟩ : ByteArray), 1)))) = some (r1, r2) := h
  clear h
  replace H := Option.bind_eq_some_iff.mp H
  obtain ⟨t146, A30, H⟩ := H
  replace H : (if t146 = true then (daybookref17_Trial.l0 k l0 a1 ([] : List Int) ([] : List Int) (([(([(⟨#[65, 99, 99, 111, 117, 110, 116]⟩ : ByteArray), (⟨#[68, 101, 98, 105, 116]⟩ : ByteArray), (⟨#[67, 114, 101, 100, 105, 116]⟩ : ByteArray)] : List ByteArray))] : List (List ByteArray))) 0) else (some ((⟨#[]⟩ : ByteArray), 1))) = some (r1, r2) := H
  have A3 := Aside0.mk A30
  clear A30
  by_cases c4 : t146 = true
  · subst c4
    have H1 : (daybookref17_Trial.l0 k l0 a1 ([] : List Int) ([] : List Int) (([(([(⟨#[65, 99, 99, 111, 117, 110, 116]⟩ : ByteArray), (⟨#[68, 101, 98, 105, 116]⟩ : ByteArray), (⟨#[67, 114, 101, 100, 105, 116]⟩ : ByteArray)] : List ByteArray))] : List (List ByteArray))) 0) = some (r1, r2) := by rw [if_pos rfl] at H; exact H
    clear H
    have H := H1
    clear H1
    obtain ⟨y147, hy147⟩ : ∃ y_ : List ByteArray, y_ = (([(⟨#[65, 99, 99, 111, 117, 110, 116]⟩ : ByteArray), (⟨#[68, 101, 98, 105, 116]⟩ : ByteArray), (⟨#[67, 114, 101, 100, 105, 116]⟩ : ByteArray)] : List ByteArray)) := ⟨_, rfl⟩
    replace H : (daybookref17_Trial.l0 k l0 a1 ([] : List Int) ([] : List Int) (([y147] : List (List ByteArray))) 0) = some (r1, r2) := by first | (rw [hy147]; with_reducible exact H) | (have H2_ := (Option.bind_some _ _).symm.trans H; rw [hy147]; with_reducible exact H2_) | (have H2_ := (Option.bind_some _ _).symm.trans H; with_reducible exact H2_) | with_reducible exact H | (rw [hy147]; exact H) | exact H
    have Ny147 := Aside0.mk hy147
    clear hy147
    obtain ⟨y150, hy150⟩ : ∃ y_ : List (List ByteArray), y_ = (([y147] : List (List ByteArray))) := ⟨_, rfl⟩
    replace H : (daybookref17_Trial.l0 k l0 a1 ([] : List Int) ([] : List Int) y150 0) = some (r1, r2) := by first | (rw [hy150]; with_reducible exact H) | (have H2_ := (Option.bind_some _ _).symm.trans H; rw [hy150]; with_reducible exact H2_) | (have H2_ := (Option.bind_some _ _).symm.trans H; with_reducible exact H2_) | with_reducible exact H | (rw [hy150]; exact H) | exact H
    have Ny150 := Aside0.mk hy150
    clear hy150
    have H' := Aside0.mk H
    clear H
    go_enter Tryz.func11, Tryz.ntmps11
    go_wp2_with (first | ((with_reducible refine gate_callee (f := 48) rfl ?_); refine goesL_ (some 17) rfl rfl Tryz.func48 (by kernel_rfl) rfl #[.int .i64 a1] rfl (by (try simp only [List.map_toArray, List.map_cons, List.map_nil]); first | done | rfl | (simp only [List.length_drop, List.length_take]; rfl)) ?_; (with_reducible refine (daybookref17_digits.calls a1 true _ A3.out).mono ?_); rintro e w' ⟨rfl, ⟨nd, rfl⟩⟩; refine ⟨_, rfl, ?_⟩) | ((with_reducible refine gate_dst (N := 19) rfl ?_); refine Kd.R_lit Kd.string _ 9 ?hg (N := 19) ?hd (xs := ([(⟨#[65, 99, 99, 111, 117, 110, 116]⟩ : ByteArray), (⟨#[68, 101, 98, 105, 116]⟩ : ByteArray), (⟨#[67, 114, 101, 100, 105, 116]⟩ : ByteArray)] : List ByteArray)) (inner := [.string (⟨#[65, 99, 99, 111, 117, 110, 116]⟩ : ByteArray), .string (⟨#[68, 101, 98, 105, 116]⟩ : ByteArray), .string (⟨#[67, 114, 101, 100, 105, 116]⟩ : ByteArray)]) (ok := fun _ => True) (okp := fun _ => True) ?hr ?hp (fun _ hk => hk) trivial (Below.refl _ _) (Nat.le_refl _) (by simp) ?_; (case hd => rfl); (case hg => rfl); (case hr => first | (go_simp; done) | (go_simp; rfl)); (case hp => exact (Reps.one (show Kd.M Kd.string _ _ _ (⟨#[65, 99, 99, 111, 117, 110, 116]⟩ : ByteArray) [.string (⟨#[65, 99, 99, 111, 117, 110, 116]⟩ : ByteArray)] from rfl) (Reps.one (show Kd.M Kd.string _ _ _ (⟨#[68, 101, 98, 105, 116]⟩ : ByteArray) [.string (⟨#[68, 101, 98, 105, 116]⟩ : ByteArray)] from rfl) (Reps.one (show Kd.M Kd.string _ _ _ (⟨#[67, 114, 101, 100, 105, 116]⟩ : ByteArray) [.string (⟨#[67, 114, 101, 100, 105, 116]⟩ : ByteArray)] from rfl) (Reps.none _ _))))); intro v148 w5 ho6 hb hg_ hnew_; clear hg_ hnew_; (first | rw [← Ny147.out] at ho6 | (simp only [Int.reduceToNat] at ho6; rw [← Ny147.out] at ho6)); have n0_ := Aside0.mk (Kd.R_lower ho6 (below_size (by repeat (first | (with_reducible first | exact HB.out | apply below_alloc | apply pw_below_drewN | apply below_drew1) | exact HB.out)))); have n1_ := Aside0.mk (below_step (by repeat (first | (with_reducible first | exact HB.out | apply below_alloc | apply pw_below_drewN | apply below_drew1) | exact HB.out)) hb); clear HB; have HO149 := n0_; have HB := n1_; clear n0_ n1_; clear hb ho6; obtain ⟨Ao7, co7, eo7⟩ := Kd.R_slice HO149.out; subst eo7) | ((with_reducible refine gate_dst (N := 20) rfl ?_); refine Kd.N_lit (Kd.slice 9 Kd.string) _ 90 ?hg (N' := 20) ?hd (xs := ([y147] : List (List ByteArray))) (inner := [.slice Ao7 y147.length co7]) (ok := (fun _ => True)) (okp := (fun _ => True)) ?hr ?hp (fun _ hk => hk) ((show ∀ k_, w5.heap.size ≤ k_ → (fun _ => True) k_ from fun k_ hk => trivial) _ (Nat.le_refl _)) (Below.refl _ _) (Nat.le_refl _) (by simp) ?_; (case hd => rfl); (case hg => rfl); (case hr => first | (go_simp; done) | (go_simp; rfl)); (case hp => exact (Reps.one (show Kd.FK (Kd.slice 9 Kd.string) _ _ y147 [.slice Ao7 y147.length co7] from (Kd.FK_slice_mk (Kd.R_reads' (Kd.R_mono (ok' := (fun _ => True)) (HO149.out) (fun k_ hk => trivial))).2.1 (Kd.R_F (Kd.R_mono (ok' := (fun _ => True)) (HO149.out) (fun k_ hk => trivial))))) (Reps.none _ _))); intro v151 w8 ho9 hb hg_ hnew_; clear hg_ hnew_; (first | rw [← Ny150.out] at ho9 | (simp only [Int.reduceToNat] at ho9; rw [← Ny150.out] at ho9)); have n0_ := Aside0.mk (Kd.N_lower ho9 (below_size (by repeat (first | (with_reducible first | exact HB.out | apply below_alloc | apply pw_below_drewN | apply below_drew1) | exact HB.out)))); have n1_ := Aside0.mk (below_step (by repeat (first | (with_reducible first | exact HB.out | apply below_alloc | apply pw_below_drewN | apply below_drew1) | exact HB.out)) hb); clear HB; clear HO149; have HO152 := n0_; have HB := n1_; clear n0_ n1_; clear hb ho9))
    go_loopg [6, 7, 8, 9] k (fun kq v6 v7 v8 v9 w' => ∃ (x6_1 : List Int) (x7_1 : List Int) (x8_1 : List (List ByteArray)) (x9_1 : Int), v9 = .int .i64 x9_1 ∧ Aside0 (daybookref17_Trial.l0 kq l0 a1 x6_1 x7_1 x8_1 x9_1 = some (r1, r2)) ∧ Aside0 (kq ≤ k) ∧ Aside0 (Kd.R (Kd.int .i64) 2 w' w.heap.size (fun k_ => some k_ ≠ (v7 : Value).ownBlock) v6 x6_1) ∧ Aside0 (Kd.R (Kd.int .i64) 2 w' w.heap.size (fun k_ => some k_ ≠ (v6 : Value).ownBlock) v7 x7_1) ∧ Aside0 (Kd.N (Kd.slice 9 Kd.string) 90 w' w.heap.size (fun k_ => some k_ ≠ (v6 : Value).ownBlock ∧ some k_ ≠ (v7 : Value).ownBlock) v8 x8_1) ∧ Aside0 (Below w.heap.size w w'))
    case atStart => exact ⟨(([] : List Int)), (([] : List Int)), (y150), (0), (by first | rfl | (simp; done) | (simp [*]; done)), H', ⟨Nat.le_refl _⟩, ⟨by first | exact Kd.R_nil _ _ _ _ _ | exact Kd.N_nil _ _ _ _ _ | exact Kd.V_nil _ _ _ _ _ | exact Kd.Q_nil _ _ _ _ _ | exact Kd.S_nil _ _ _ _ _⟩, ⟨by first | exact Kd.R_nil _ _ _ _ _ | exact Kd.N_nil _ _ _ _ _ | exact Kd.V_nil _ _ _ _ _ | exact Kd.Q_nil _ _ _ _ _ | exact Kd.S_nil _ _ _ _ _⟩, ⟨by (with_reducible repeat (first | apply Kd.N_alloc | apply Kd.N_drewN | apply Kd.N_drew)); exact Kd.N_mono HO152.out (fun _ hk => ⟨(by simp [Value.ownBlock]), (by simp [Value.ownBlock])⟩)⟩, ⟨by repeat (first | (with_reducible first | exact HB.out | apply below_alloc | apply pw_below_drewN | apply below_drew1) | exact HB.out)⟩⟩
    case round =>
      clear H'
      try clear c1
      try clear p2
      try clear c4
      obtain ⟨x6_1, x7_1, x8_1, x9_1, rfl, HA, HK1, HO_6, HO_7, HO_8, HB⟩ := hrel
      cases gk with
      | zero => exact absurd HA.out (by simp [daybookref17_Trial.l0])
      | succ k1 =>
        have H := HA.out
        clear HA
        simp only [daybookref17_Trial.l0] at H
        by_cases c10 : x9_1 < (l0.length : Int)
        · rw [if_pos c10] at H
          have c10b0 : decide (x9_1 < (l0.length : Int)) = true := decide_eq_true c10
          clear c10
          by_cases c11 : 0 ≤ x9_1
          · rw [if_pos c11] at H
            have c11b0 : decide (0 ≤ x9_1) = true := decide_eq_true c11
            clear c11
            replace H := Option.bind_eq_some_iff.mp H
            obtain ⟨t155, A120, H⟩ := H
            replace H : (if t155 = true then (if ((rd_T31 l0 x9_1).f1) < 0 then (daybookref17_Trial.j1 k1 l0 a1 x6_1 x7_1 x8_1 x9_1 true ((rd_T31 l0 x9_1).f0) ((rd_T31 l0 x9_1).f1) ((rd_T31 l0 x9_1).f2)) else (daybookref17_Trial.j1 k1 l0 a1 x6_1 x7_1 x8_1 x9_1 (decide (((rd_T31 l0 x9_1).f2) < 0)) ((rd_T31 l0 x9_1).f0) ((rd_T31 l0 x9_1).f1) ((rd_T31 l0 x9_1).f2))) else (some ((⟨#[]⟩ : ByteArray), 60))) = some (r1, r2) := H
            have A12 := Aside0.mk A120
            clear A120
            by_cases c13 : t155 = true
            · subst c13
              have H1 : (if ((rd_T31 l0 x9_1).f1) < 0 then (daybookref17_Trial.j1 k1 l0 a1 x6_1 x7_1 x8_1 x9_1 true ((rd_T31 l0 x9_1).f0) ((rd_T31 l0 x9_1).f1) ((rd_T31 l0 x9_1).f2)) else (daybookref17_Trial.j1 k1 l0 a1 x6_1 x7_1 x8_1 x9_1 (decide (((rd_T31 l0 x9_1).f2) < 0)) ((rd_T31 l0 x9_1).f0) ((rd_T31 l0 x9_1).f1) ((rd_T31 l0 x9_1).f2))) = some (r1, r2) := by rw [if_pos rfl] at H; exact H
              clear H
              have H := H1
              clear H1
              have HC14 := Aside0.mk H
              clear H
              have p153 : 0 ≤ (x9_1 : Int) := of_decide_eq_true (by first | (with_reducible assumption) | assumption)
              have q153 : x9_1 < (l0.length : Int) := of_decide_eq_true (by first | (with_reducible assumption) | assumption)
              obtain ⟨ad153, e153, hx153_0, hx153_1, hx153_2⟩ := at_T31 HR0.out x9_1 p153 q153
              cases e153
              replace hx153_0 := (HB.out.cell (World.block_lt_of_cell? w _ hx153_0)).trans hx153_0
              replace hx153_1 := (HB.out.cell (World.block_lt_of_cell? w _ hx153_1)).trans hx153_1
              replace hx153_2 := (HB.out.cell (World.block_lt_of_cell? w _ hx153_2)).trans hx153_2
              replace p153 := eq_true p153
              replace q153 := eq_true q153
              go_upto_region 11 with (first | ((with_reducible refine gate_dst (N := 10) rfl ?_); refine box_event ?hg (N := 10) ?hd (cs := #[.string (⟨#[]⟩ : ByteArray), .int .i64 0, .int .i64 0]) (t := 31) ?hr ?_; (case hd => rfl); (case hg => rfl); (case hr => first | (go_simp; done) | (go_simp; rfl)); intro gb154 hg w15 hbox hb; have n0_ := Aside0.mk (Kd.R_below (by (with_reducible repeat (first | apply Kd.R_alloc | apply Kd.R_drewN | apply Kd.R_drew)); exact HO_6.out) hb); have n1_ := Aside0.mk (Kd.R_below (by (with_reducible repeat (first | apply Kd.R_alloc | apply Kd.R_drewN | apply Kd.R_drew)); exact HO_7.out) hb); have n2_ := Aside0.mk (Kd.N_below (Kd.N_elderB (by (with_reducible repeat (first | apply Kd.N_alloc | apply Kd.N_drewN | apply Kd.N_drew)); exact HO_8.out) gb154 (Nat.le_of_eq hg.symm)) hb); have n3_ := Aside0.mk (below_step (by repeat (first | (with_reducible first | exact HB.out | apply below_alloc | apply pw_below_drewN | apply below_drew1) | exact HB.out)) hb); have n4_ := Aside0.mk (hbox); have n5_ := Aside0.mk ((by rw [hg]; exact (below_size (by repeat (first | (with_reducible first | exact HB.out | apply below_alloc | apply pw_below_drewN | apply below_drew1) | exact HB.out))) : w.heap.size ≤ gb154)); have n6_ := Aside0.mk ((by rw [hg]; exact (below_size (by repeat (first | (with_reducible first | exact HB.out | apply below_alloc | apply pw_below_drewN | apply below_drew1) | exact HB.out))) : w.heap.size ≤ gb154)); clear HO_6; clear HO_7; clear HO_8; clear HB; have HO_6 := n0_; have HO_7 := n1_; have HO_8 := n2_; have HB := n3_; have BK154 := n4_; have GW154 := n5_; have GE154 := n6_; clear n0_ n1_ n2_ n3_ n4_ n5_ n6_; clear hb hbox hg; have hcz16_0 : w15.cell? ⟨gb154, 0, none⟩ = some (.string (⟨#[]⟩ : ByteArray)) := (blk_cell BK154.out 0).trans rfl; have hcz16_1 : w15.cell? ⟨gb154, 1, none⟩ = some (.int .i64 0) := (blk_cell BK154.out 1).trans rfl; have hcz16_2 : w15.cell? ⟨gb154, 2, none⟩ = some (.int .i64 0) := (blk_cell BK154.out 2).trans rfl; have hfz16_0 := blk_frozen BK154.out 0; have hfz16_1 := blk_frozen BK154.out 1; have hfz16_2 := blk_frozen BK154.out 2) | ((with_reducible refine gate_callee (f := 49) rfl ?_); refine goesL_ (some 33) rfl rfl Tryz.func49 (by kernel_rfl) rfl #[.string ((rd_T31 l0 x9_1).f0)] rfl (by (try simp only [List.map_toArray, List.map_cons, List.map_nil]); first | done | rfl | (simp only [List.length_drop, List.length_take]; rfl)) ?_; (with_reducible refine (daybookref05_Name.calls k1 ((rd_T31 l0 x9_1).f0) true _ A12.out).mono ?_); rintro e w' ⟨rfl, ⟨nd, rfl⟩⟩; refine ⟨_, rfl, ?_⟩))
              (try simp only [Act.put, List.setIfInBounds_toArray, List.set_cons_zero, List.set_cons_succ])
              go_cut [42] (fun v42 wc => ∃ (kq : Nat) (x42_13 : Bool), v42 = .bool x42_13 ∧ Aside0 (daybookref17_Trial.j1 kq l0 a1 x6_1 x7_1 x8_1 x9_1 x42_13 ((rd_T31 l0 x9_1).f0) ((rd_T31 l0 x9_1).f1) ((rd_T31 l0 x9_1).f2) = some (r1, r2)) ∧ Aside0 (kq ≤ k1) ∧ Aside0 (Kd.R (Kd.int .i64) 2 wc w.heap.size (fun k_ => some k_ ≠ (u7 : Value).ownBlock) u6 x6_1) ∧ Aside0 (Kd.R (Kd.int .i64) 2 wc w.heap.size (fun k_ => some k_ ≠ (u6 : Value).ownBlock) u7 x7_1) ∧ Aside0 (Kd.N (Kd.slice 9 Kd.string) 90 wc w.heap.size (fun k_ => some k_ ≠ (u6 : Value).ownBlock ∧ some k_ ≠ (u7 : Value).ownBlock ∧ k_ ≠ gb154) u8 x8_1) ∧ Aside0 (wc.heap[gb154]? = some (.cells #[.string ((rd_T31 l0 x9_1).f0), .int .i64 ((rd_T31 l0 x9_1).f1), .int .i64 ((rd_T31 l0 x9_1).f2)] 31 (0, 0))) ∧ Aside0 (Below w.heap.size w wc))
              case first =>
                have H := HC14.out
                clear HC14
                by_cases c17 : ((rd_T31 l0 x9_1).f1) < 0
                · rw [if_pos c17] at H
                  have c17b0 : decide (((rd_T31 l0 x9_1).f1) < 0) = true := decide_eq_true c17
                  clear c17
                  (first | rw [c17b0] | (simp only [i64_w, i32_w]; rw [c17b0]) | skip)
                  have H' := Aside0.mk H
                  clear H
                  have hcz18_0 : w15.cell? ⟨gb154, 0, none⟩ = some (.string (⟨#[]⟩ : ByteArray)) := (blk_cell BK154.out 0).trans rfl
                  have hcz18_1 : w15.cell? ⟨gb154, 1, none⟩ = some (.int .i64 0) := (blk_cell BK154.out 1).trans rfl
                  have hcz18_2 : w15.cell? ⟨gb154, 2, none⟩ = some (.int .i64 0) := (blk_cell BK154.out 2).trans rfl
                  have hfz18_0 := blk_frozen BK154.out 0
                  have hfz18_1 := blk_frozen BK154.out 1
                  have hfz18_2 := blk_frozen BK154.out 2
                  go_wp2
                  go_meet
                  case rel => exact ⟨_, (true), (by first | rfl | (simp; done) | (simp [*]; done)), H', ⟨by have := HK1.out; first | omega | exact Nat.le_refl _⟩, ⟨by (with_reducible repeat (first | apply Kd.R_alloc | apply Kd.R_drewN | apply Kd.R_drew)); exact Kd.R_mono (Kd.R_far (p := ⟨gb154, 2, none⟩) (Kd.R_far (p := ⟨gb154, 1, none⟩) (Kd.R_far (p := ⟨gb154, 0, none⟩) (Kd.R_types HO_6.out BK154.out (by decide)) (fun _ hk => hk.2) (.string ((rd_T31 l0 x9_1).f0))) (fun _ hk => hk.2) (.int .i64 ((rd_T31 l0 x9_1).f1))) (fun _ hk => hk.2) (.int .i64 ((rd_T31 l0 x9_1).f2))) (fun _ hk => hk.1)⟩, ⟨by (with_reducible repeat (first | apply Kd.R_alloc | apply Kd.R_drewN | apply Kd.R_drew)); exact Kd.R_mono (Kd.R_far (p := ⟨gb154, 2, none⟩) (Kd.R_far (p := ⟨gb154, 1, none⟩) (Kd.R_far (p := ⟨gb154, 0, none⟩) (Kd.R_types HO_7.out BK154.out (by decide)) (fun _ hk => hk.2) (.string ((rd_T31 l0 x9_1).f0))) (fun _ hk => hk.2) (.int .i64 ((rd_T31 l0 x9_1).f1))) (fun _ hk => hk.2) (.int .i64 ((rd_T31 l0 x9_1).f2))) (fun _ hk => hk.1)⟩, ⟨by (with_reducible repeat (first | apply Kd.N_alloc | apply Kd.N_drewN | apply Kd.N_drew)); exact Kd.N_mono (Kd.N_far (p := ⟨gb154, 2, none⟩) (Kd.N_far (p := ⟨gb154, 1, none⟩) (Kd.N_far (p := ⟨gb154, 0, none⟩) (Kd.N_mono HO_8.out (fun k_ hk => (⟨hk, hk.2⟩ : _ ∧ k_ ≠ gb154))) (fun _ hk => hk.2) (.string ((rd_T31 l0 x9_1).f0))) (fun _ hk => hk.2) (.int .i64 ((rd_T31 l0 x9_1).f1))) (fun _ hk => hk.2) (.int .i64 ((rd_T31 l0 x9_1).f2))) (fun _ hk => ⟨hk.1.1.1, ⟨hk.1.1.2, hk.1.2⟩⟩)⟩, ⟨by (with_reducible repeat (first | refine blk_drewN ?_ _ | refine blk_drew ?_ | refine blk_alloc ?_ _)); refine blk_put (cs := #[.string ((rd_T31 l0 x9_1).f0), .int .i64 ((rd_T31 l0 x9_1).f1), .int .i64 0]) ?_ 2 _ rfl; (with_reducible repeat (first | refine blk_drewN ?_ _ | refine blk_drew ?_ | refine blk_alloc ?_ _)); refine blk_put (cs := #[.string ((rd_T31 l0 x9_1).f0), .int .i64 0, .int .i64 0]) ?_ 1 _ rfl; (with_reducible repeat (first | refine blk_drewN ?_ _ | refine blk_drew ?_ | refine blk_alloc ?_ _)); refine blk_put (cs := #[.string (⟨#[]⟩ : ByteArray), .int .i64 0, .int .i64 0]) ?_ 0 _ rfl; (with_reducible repeat (first | refine blk_drewN ?_ _ | refine blk_drew ?_ | refine blk_alloc ?_ _)); exact BK154.out⟩, ⟨by repeat (first | (with_reducible first | exact HB.out | apply below_alloc | apply pw_below_drewN | apply below_drew1 | refine below_set ?_ GE154.out) | exact HB.out)⟩⟩
                · rw [if_neg c17] at H
                  have c17b0 : decide (((rd_T31 l0 x9_1).f1) < 0) = false := decide_eq_false c17
                  clear c17
                  (first | rw [c17b0] | (simp only [i64_w, i32_w]; rw [c17b0]) | skip)
                  have H' := Aside0.mk H
                  clear H
                  have hcz19_0 : w15.cell? ⟨gb154, 0, none⟩ = some (.string (⟨#[]⟩ : ByteArray)) := (blk_cell BK154.out 0).trans rfl
                  have hcz19_1 : w15.cell? ⟨gb154, 1, none⟩ = some (.int .i64 0) := (blk_cell BK154.out 1).trans rfl
                  have hcz19_2 : w15.cell? ⟨gb154, 2, none⟩ = some (.int .i64 0) := (blk_cell BK154.out 2).trans rfl
                  have hfz19_0 := blk_frozen BK154.out 0
                  have hfz19_1 := blk_frozen BK154.out 1
                  have hfz19_2 := blk_frozen BK154.out 2
                  go_wp2
                  go_meet
                  case rel => exact ⟨_, (decide (((rd_T31 l0 x9_1).f2) < 0)), (by first | rfl | (simp; done) | (simp [*]; done)), H', ⟨by have := HK1.out; first | omega | exact Nat.le_refl _⟩, ⟨by (with_reducible repeat (first | apply Kd.R_alloc | apply Kd.R_drewN | apply Kd.R_drew)); exact Kd.R_mono (Kd.R_far (p := ⟨gb154, 2, none⟩) (Kd.R_far (p := ⟨gb154, 1, none⟩) (Kd.R_far (p := ⟨gb154, 0, none⟩) (Kd.R_types HO_6.out BK154.out (by decide)) (fun _ hk => hk.2) (.string ((rd_T31 l0 x9_1).f0))) (fun _ hk => hk.2) (.int .i64 ((rd_T31 l0 x9_1).f1))) (fun _ hk => hk.2) (.int .i64 ((rd_T31 l0 x9_1).f2))) (fun _ hk => hk.1)⟩, ⟨by (with_reducible repeat (first | apply Kd.R_alloc | apply Kd.R_drewN | apply Kd.R_drew)); exact Kd.R_mono (Kd.R_far (p := ⟨gb154, 2, none⟩) (Kd.R_far (p := ⟨gb154, 1, none⟩) (Kd.R_far (p := ⟨gb154, 0, none⟩) (Kd.R_types HO_7.out BK154.out (by decide)) (fun _ hk => hk.2) (.string ((rd_T31 l0 x9_1).f0))) (fun _ hk => hk.2) (.int .i64 ((rd_T31 l0 x9_1).f1))) (fun _ hk => hk.2) (.int .i64 ((rd_T31 l0 x9_1).f2))) (fun _ hk => hk.1)⟩, ⟨by (with_reducible repeat (first | apply Kd.N_alloc | apply Kd.N_drewN | apply Kd.N_drew)); exact Kd.N_mono (Kd.N_far (p := ⟨gb154, 2, none⟩) (Kd.N_far (p := ⟨gb154, 1, none⟩) (Kd.N_far (p := ⟨gb154, 0, none⟩) (Kd.N_mono HO_8.out (fun k_ hk => (⟨hk, hk.2⟩ : _ ∧ k_ ≠ gb154))) (fun _ hk => hk.2) (.string ((rd_T31 l0 x9_1).f0))) (fun _ hk => hk.2) (.int .i64 ((rd_T31 l0 x9_1).f1))) (fun _ hk => hk.2) (.int .i64 ((rd_T31 l0 x9_1).f2))) (fun _ hk => ⟨hk.1.1.1, ⟨hk.1.1.2, hk.1.2⟩⟩)⟩, ⟨by (with_reducible repeat (first | refine blk_drewN ?_ _ | refine blk_drew ?_ | refine blk_alloc ?_ _)); refine blk_put (cs := #[.string ((rd_T31 l0 x9_1).f0), .int .i64 ((rd_T31 l0 x9_1).f1), .int .i64 0]) ?_ 2 _ rfl; (with_reducible repeat (first | refine blk_drewN ?_ _ | refine blk_drew ?_ | refine blk_alloc ?_ _)); refine blk_put (cs := #[.string ((rd_T31 l0 x9_1).f0), .int .i64 0, .int .i64 0]) ?_ 1 _ rfl; (with_reducible repeat (first | refine blk_drewN ?_ _ | refine blk_drew ?_ | refine blk_alloc ?_ _)); refine blk_put (cs := #[.string (⟨#[]⟩ : ByteArray), .int .i64 0, .int .i64 0]) ?_ 0 _ rfl; (with_reducible repeat (first | refine blk_drewN ?_ _ | refine blk_drew ?_ | refine blk_alloc ?_ _)); exact BK154.out⟩, ⟨by repeat (first | (with_reducible first | exact HB.out | apply below_alloc | apply pw_below_drewN | apply below_drew1 | refine below_set ?_ GE154.out) | exact HB.out)⟩⟩
              case rest =>
                clear HC14
                try clear c1
                try clear p1
                try clear q1
                try clear hx1
                try clear p2
                try clear c4
                try clear c10
                try clear c10b0
                try clear c11
                try clear c11b0
                try clear c13
                try clear p15
                try clear q15
                try clear hx15
                try clear c17
                try clear c17b0
                try clear hcz16_0
                try clear hcz16_1
                try clear hcz16_2
                try clear hcz18_0
                try clear hcz18_1
                try clear hcz18_2
                try clear hcz19_0
                try clear hcz19_1
                try clear hcz19_2
                try clear hfz16_0
                try clear hfz16_1
                try clear hfz16_2
                try clear hfz18_0
                try clear hfz18_1
                try clear hfz18_2
                try clear hfz19_0
                try clear hfz19_1
                try clear hfz19_2
                try clear hx153_0
                try clear hx153_1
                try clear hx153_2
                try clear p153
                try clear p2
                try clear q153
                obtain ⟨kq, x42_13, rfl, HA, HJ13, HO_6, HO_7, HO_8, BK154, HB⟩ := hcut
                cases kq with
                | zero => exact absurd HA.out (by simp [daybookref17_Trial.j1])
                | succ kj13 =>
                  have H := HA.out
                  clear HA
                  simp only [daybookref17_Trial.j1] at H
                  by_cases c20 : x42_13 = true
                  · subst c20
                    have H1 : (some ((⟨#[]⟩ : ByteArray), 10)) = some (r1, r2) := by rw [if_pos rfl] at H; exact H
                    clear H
                    have H := H1
                    clear H1
                    simp only [Option.some.injEq, Prod.mk.injEq] at H
                    obtain ⟨rfl, rfl⟩ := H
                    go_wp2
                    go_ret2
                    exact ⟨by first | rfl | (simp [errW_none, errW_some] <;> rfl) | (simp [*, errW_none, errW_some] <;> rfl), by repeat (first | (with_reducible first | exact HB.out | apply below_alloc | apply pw_below_drewN | apply below_drew1 | refine below_set ?_ GE154.out) | exact HB.out)⟩
                  · replace c20 := Bool.eq_false_iff.mpr c20
                    subst c20
                    have H1 : (if x6_1.length < 17592186044416 then ((some (x6_1 ++ [((rd_T31 l0 x9_1).f1)] : List Int)).bind fun y156 => (if x7_1.length < 17592186044416 then ((some (x7_1 ++ [((rd_T31 l0 x9_1).f2)] : List Int)).bind fun y159 => ((some (([((rd_T31 l0 x9_1).f0), (⟨#[]⟩ : ByteArray), (⟨#[]⟩ : ByteArray)] : List ByteArray) : List ByteArray)).bind fun y162 => (if ((rd_T31 l0 x9_1).f1) > 0 then ((daybookref17_money.f kj13 ((rd_T31 l0 x9_1).f1) a1).bind fun t165 => (if 1 < (y162.length : Int) then ((some (y162.set (1 : Int).toNat t165 : List ByteArray)).bind fun y166 => (if ((rd_T31 l0 x9_1).f2) > 0 then ((daybookref17_money.f kj13 ((rd_T31 l0 x9_1).f2) a1).bind fun t167 => (if 2 < (y162.length : Int) then (if x8_1.length < 5864062014805 then (daybookref17_Trial.l0 kj13 l0 a1 y156 y159 (x8_1 ++ [(y166.set (2 : Int).toNat t167)]) (wrap64 (x9_1 + 1))) else (none)) else (none))) else (if x8_1.length < 5864062014805 then (daybookref17_Trial.l0 kj13 l0 a1 y156 y159 (x8_1 ++ [y166]) (wrap64 (x9_1 + 1))) else (none)))) else (none))) else (if ((rd_T31 l0 x9_1).f2) > 0 then ((daybookref17_money.f kj13 ((rd_T31 l0 x9_1).f2) a1).bind fun t175 => (if 2 < (y162.length : Int) then (if x8_1.length < 5864062014805 then (daybookref17_Trial.l0 kj13 l0 a1 y156 y159 (x8_1 ++ [(y162.set (2 : Int).toNat t175)]) (wrap64 (x9_1 + 1))) else (none)) else (none))) else (if x8_1.length < 5864062014805 then (daybookref17_Trial.l0 kj13 l0 a1 y156 y159 (x8_1 ++ [y162]) (wrap64 (x9_1 + 1))) else (none)))))) else (none))) else (none)) = some (r1, r2) := by rw [if_neg (show ¬ (false = true) by decide)] at H; exact H
                    clear H
                    have H := H1
                    clear H1
                    by_cases c21 : x6_1.length < 17592186044416
                    · rw [if_pos c21] at H
                      have LMc21 := Aside0.mk c21
                      clear c21
                      obtain ⟨y156, hy156⟩ : ∃ y_ : List Int, y_ = (x6_1 ++ [((rd_T31 l0 x9_1).f1)]) := ⟨_, rfl⟩
                      replace H : (if x7_1.length < 17592186044416 then ((some (x7_1 ++ [((rd_T31 l0 x9_1).f2)] : List Int)).bind fun y159 => ((some (([((rd_T31 l0 x9_1).f0), (⟨#[]⟩ : ByteArray), (⟨#[]⟩ : ByteArray)] : List ByteArray) : List ByteArray)).bind fun y162 => (if ((rd_T31 l0 x9_1).f1) > 0 then ((daybookref17_money.f kj13 ((rd_T31 l0 x9_1).f1) a1).bind fun t165 => (if 1 < (y162.length : Int) then ((some (y162.set (1 : Int).toNat t165 : List ByteArray)).bind fun y166 => (if ((rd_T31 l0 x9_1).f2) > 0 then ((daybookref17_money.f kj13 ((rd_T31 l0 x9_1).f2) a1).bind fun t167 => (if 2 < (y162.length : Int) then (if x8_1.length < 5864062014805 then (daybookref17_Trial.l0 kj13 l0 a1 y156 y159 (x8_1 ++ [(y166.set (2 : Int).toNat t167)]) (wrap64 (x9_1 + 1))) else (none)) else (none))) else (if x8_1.length < 5864062014805 then (daybookref17_Trial.l0 kj13 l0 a1 y156 y159 (x8_1 ++ [y166]) (wrap64 (x9_1 + 1))) else (none)))) else (none))) else (if ((rd_T31 l0 x9_1).f2) > 0 then ((daybookref17_money.f kj13 ((rd_T31 l0 x9_1).f2) a1).bind fun t175 => (if 2 < (y162.length : Int) then (if x8_1.length < 5864062014805 then (daybookref17_Trial.l0 kj13 l0 a1 y156 y159 (x8_1 ++ [(y162.set (2 : Int).toNat t175)]) (wrap64 (x9_1 + 1))) else (none)) else (none))) else (if x8_1.length < 5864062014805 then (daybookref17_Trial.l0 kj13 l0 a1 y156 y159 (x8_1 ++ [y162]) (wrap64 (x9_1 + 1))) else (none)))))) else (none)) = some (r1, r2) := by first | (rw [hy156]; with_reducible exact H) | (have H2_ := (Option.bind_some _ _).symm.trans H; rw [hy156]; with_reducible exact H2_) | (have H2_ := (Option.bind_some _ _).symm.trans H; with_reducible exact H2_) | with_reducible exact H | (rw [hy156]; exact H) | exact H
                      have Ny156 := Aside0.mk hy156
                      clear hy156
                      by_cases c22 : x7_1.length < 17592186044416
                      · rw [if_pos c22] at H
                        have LMc22 := Aside0.mk c22
                        clear c22
                        obtain ⟨y159, hy159⟩ : ∃ y_ : List Int, y_ = (x7_1 ++ [((rd_T31 l0 x9_1).f2)]) := ⟨_, rfl⟩
                        replace H : ((some (([((rd_T31 l0 x9_1).f0), (⟨#[]⟩ : ByteArray), (⟨#[]⟩ : ByteArray)] : List ByteArray) : List ByteArray)).bind fun y162 => (if ((rd_T31 l0 x9_1).f1) > 0 then ((daybookref17_money.f kj13 ((rd_T31 l0 x9_1).f1) a1).bind fun t165 => (if 1 < (y162.length : Int) then ((some (y162.set (1 : Int).toNat t165 : List ByteArray)).bind fun y166 => (if ((rd_T31 l0 x9_1).f2) > 0 then ((daybookref17_money.f kj13 ((rd_T31 l0 x9_1).f2) a1).bind fun t167 => (if 2 < (y162.length : Int) then (if x8_1.length < 5864062014805 then (daybookref17_Trial.l0 kj13 l0 a1 y156 y159 (x8_1 ++ [(y166.set (2 : Int).toNat t167)]) (wrap64 (x9_1 + 1))) else (none)) else (none))) else (if x8_1.length < 5864062014805 then (daybookref17_Trial.l0 kj13 l0 a1 y156 y159 (x8_1 ++ [y166]) (wrap64 (x9_1 + 1))) else (none)))) else (none))) else (if ((rd_T31 l0 x9_1).f2) > 0 then ((daybookref17_money.f kj13 ((rd_T31 l0 x9_1).f2) a1).bind fun t175 => (if 2 < (y162.length : Int) then (if x8_1.length < 5864062014805 then (daybookref17_Trial.l0 kj13 l0 a1 y156 y159 (x8_1 ++ [(y162.set (2 : Int).toNat t175)]) (wrap64 (x9_1 + 1))) else (none)) else (none))) else (if x8_1.length < 5864062014805 then (daybookref17_Trial.l0 kj13 l0 a1 y156 y159 (x8_1 ++ [y162]) (wrap64 (x9_1 + 1))) else (none))))) = some (r1, r2) := by first | (rw [hy159]; with_reducible exact H) | (have H2_ := (Option.bind_some _ _).symm.trans H; rw [hy159]; with_reducible exact H2_) | (have H2_ := (Option.bind_some _ _).symm.trans H; with_reducible exact H2_) | with_reducible exact H | (rw [hy159]; exact H) | exact H
                        have Ny159 := Aside0.mk hy159
                        clear hy159
                        obtain ⟨y162, hy162⟩ : ∃ y_ : List ByteArray, y_ = (([((rd_T31 l0 x9_1).f0), (⟨#[]⟩ : ByteArray), (⟨#[]⟩ : ByteArray)] : List ByteArray)) := ⟨_, rfl⟩
                        replace H : (if ((rd_T31 l0 x9_1).f1) > 0 then ((daybookref17_money.f kj13 ((rd_T31 l0 x9_1).f1) a1).bind fun t165 => (if 1 < (y162.length : Int) then ((some (y162.set (1 : Int).toNat t165 : List ByteArray)).bind fun y166 => (if ((rd_T31 l0 x9_1).f2) > 0 then ((daybookref17_money.f kj13 ((rd_T31 l0 x9_1).f2) a1).bind fun t167 => (if 2 < (y162.length : Int) then (if x8_1.length < 5864062014805 then (daybookref17_Trial.l0 kj13 l0 a1 y156 y159 (x8_1 ++ [(y166.set (2 : Int).toNat t167)]) (wrap64 (x9_1 + 1))) else (none)) else (none))) else (if x8_1.length < 5864062014805 then (daybookref17_Trial.l0 kj13 l0 a1 y156 y159 (x8_1 ++ [y166]) (wrap64 (x9_1 + 1))) else (none)))) else (none))) else (if ((rd_T31 l0 x9_1).f2) > 0 then ((daybookref17_money.f kj13 ((rd_T31 l0 x9_1).f2) a1).bind fun t175 => (if 2 < (y162.length : Int) then (if x8_1.length < 5864062014805 then (daybookref17_Trial.l0 kj13 l0 a1 y156 y159 (x8_1 ++ [(y162.set (2 : Int).toNat t175)]) (wrap64 (x9_1 + 1))) else (none)) else (none))) else (if x8_1.length < 5864062014805 then (daybookref17_Trial.l0 kj13 l0 a1 y156 y159 (x8_1 ++ [y162]) (wrap64 (x9_1 + 1))) else (none)))) = some (r1, r2) := by first | (rw [hy162]; with_reducible exact H) | (have H2_ := (Option.bind_some _ _).symm.trans H; rw [hy162]; with_reducible exact H2_) | (have H2_ := (Option.bind_some _ _).symm.trans H; with_reducible exact H2_) | with_reducible exact H | (rw [hy162]; exact H) | exact H
                        have Ny162 := Aside0.mk hy162
                        clear hy162
                        by_cases c23 : ((rd_T31 l0 x9_1).f1) > 0
                        · rw [if_pos c23] at H
                          have c23b0 : decide (0 < ((rd_T31 l0 x9_1).f1)) = true := decide_eq_true c23
                          clear c23
                          replace H := Option.bind_eq_some_iff.mp H
                          obtain ⟨t165, A240, H⟩ := H
                          replace H : (if 1 < (y162.length : Int) then ((some (y162.set (1 : Int).toNat t165 : List ByteArray)).bind fun y166 => (if ((rd_T31 l0 x9_1).f2) > 0 then ((daybookref17_money.f kj13 ((rd_T31 l0 x9_1).f2) a1).bind fun t167 => (if 2 < (y162.length : Int) then (if x8_1.length < 5864062014805 then (daybookref17_Trial.l0 kj13 l0 a1 y156 y159 (x8_1 ++ [(y166.set (2 : Int).toNat t167)]) (wrap64 (x9_1 + 1))) else (none)) else (none))) else (if x8_1.length < 5864062014805 then (daybookref17_Trial.l0 kj13 l0 a1 y156 y159 (x8_1 ++ [y166]) (wrap64 (x9_1 + 1))) else (none)))) else (none)) = some (r1, r2) := H
                          have A24 := Aside0.mk A240
                          clear A240
                          by_cases c25 : 1 < (y162.length : Int)
                          · rw [if_pos c25] at H
                            have c25b0 : decide (1 < (y162.length : Int)) = true := decide_eq_true c25
                            have c25b1 : decide (1 < y162.length) = true := decide_eq_true (by omega)
                            clear c25
                            obtain ⟨y166, hy166⟩ : ∃ y_ : List ByteArray, y_ = (y162.set (1 : Int).toNat t165) := ⟨_, rfl⟩
                            replace H : (if ((rd_T31 l0 x9_1).f2) > 0 then ((daybookref17_money.f kj13 ((rd_T31 l0 x9_1).f2) a1).bind fun t167 => (if 2 < (y162.length : Int) then (if x8_1.length < 5864062014805 then (daybookref17_Trial.l0 kj13 l0 a1 y156 y159 (x8_1 ++ [(y166.set (2 : Int).toNat t167)]) (wrap64 (x9_1 + 1))) else (none)) else (none))) else (if x8_1.length < 5864062014805 then (daybookref17_Trial.l0 kj13 l0 a1 y156 y159 (x8_1 ++ [y166]) (wrap64 (x9_1 + 1))) else (none))) = some (r1, r2) := by first | (rw [hy166]; with_reducible exact H) | (have H2_ := (Option.bind_some _ _).symm.trans H; rw [hy166]; with_reducible exact H2_) | (have H2_ := (Option.bind_some _ _).symm.trans H; with_reducible exact H2_) | with_reducible exact H | (rw [hy166]; exact H) | exact H
                            have Ny166 := Aside0.mk hy166
                            clear hy166
                            by_cases c27 : ((rd_T31 l0 x9_1).f2) > 0
                            · rw [if_pos c27] at H
                              have c27b0 : decide (0 < ((rd_T31 l0 x9_1).f2)) = true := decide_eq_true c27
                              clear c27
                              replace H := Option.bind_eq_some_iff.mp H
                              obtain ⟨t167, A280, H⟩ := H
                              replace H : (if 2 < (y162.length : Int) then (if x8_1.length < 5864062014805 then (daybookref17_Trial.l0 kj13 l0 a1 y156 y159 (x8_1 ++ [(y166.set (2 : Int).toNat t167)]) (wrap64 (x9_1 + 1))) else (none)) else (none)) = some (r1, r2) := H
                              have A28 := Aside0.mk A280
                              clear A280
                              by_cases c29 : 2 < (y162.length : Int)
                              · rw [if_pos c29] at H
                                have c29b0 : decide (2 < (y162.length : Int)) = true := decide_eq_true c29
                                have c29b1 : decide (2 < y162.length) = true := decide_eq_true (by omega)
                                clear c29
                                obtain ⟨y168, hy168⟩ : ∃ y_ : List ByteArray, y_ = (y166.set (2 : Int).toNat t167) := ⟨_, rfl⟩
                                replace H : (if x8_1.length < 5864062014805 then (daybookref17_Trial.l0 kj13 l0 a1 y156 y159 (x8_1 ++ [y168]) (wrap64 (x9_1 + 1))) else (none)) = some (r1, r2) := by first | (rw [hy168]; with_reducible exact H) | (have H2_ := (Option.bind_some _ _).symm.trans H; rw [hy168]; with_reducible exact H2_) | (have H2_ := (Option.bind_some _ _).symm.trans H; with_reducible exact H2_) | with_reducible exact H | (rw [hy168]; exact H) | exact H
                                have Ny168 := Aside0.mk hy168
                                clear hy168
                                by_cases c31 : x8_1.length < 5864062014805
                                · rw [if_pos c31] at H
                                  have LMc31 := Aside0.mk c31
                                  clear c31
                                  obtain ⟨y169, hy169⟩ : ∃ y_ : List (List ByteArray), y_ = (x8_1 ++ [y168]) := ⟨_, rfl⟩
                                  replace H : (daybookref17_Trial.l0 kj13 l0 a1 y156 y159 y169 (wrap64 (x9_1 + 1))) = some (r1, r2) := by first | (rw [hy169]; with_reducible exact H) | (have H2_ := (Option.bind_some _ _).symm.trans H; rw [hy169]; with_reducible exact H2_) | (have H2_ := (Option.bind_some _ _).symm.trans H; with_reducible exact H2_) | with_reducible exact H | (rw [hy169]; exact H) | exact H
                                  have Ny169 := Aside0.mk hy169
                                  clear hy169
                                  have H' := Aside0.mk H
                                  clear H
                                  have hcz32_0 : wc.cell? ⟨gb154, 0, none⟩ = some (.string ((rd_T31 l0 x9_1).f0)) := (blk_cell BK154.out 0).trans rfl
                                  have hcz32_1 : wc.cell? ⟨gb154, 1, none⟩ = some (.int .i64 ((rd_T31 l0 x9_1).f1)) := (blk_cell BK154.out 1).trans rfl
                                  have hcz32_2 : wc.cell? ⟨gb154, 2, none⟩ = some (.int .i64 ((rd_T31 l0 x9_1).f2)) := (blk_cell BK154.out 2).trans rfl
                                  have hfz32_0 := blk_frozen BK154.out 0
                                  have hfz32_1 := blk_frozen BK154.out 1
                                  have hfz32_2 := blk_frozen BK154.out 2
                                  go_wp2_with (first | ((with_reducible refine gate_builtin (b := .append) (xs := #[.tmp 43, .tmp 46]) rfl ?_); at_builtin; refine Kd.R_append (Kd.int .i64) (w0 := w) w.heap.size rfl (.tmp 43) (.tmp 46) 78 2 (.int .i64 0) 8 rfl Tryz.underlying78 info2 rfl (by decide) (by omega) u6 x6_1 ((rd_T31 l0 x9_1).f1) [.int .i64 ((rd_T31 l0 x9_1).f1)] (fun k_ => some k_ ≠ (u7 : Value).ownBlock) (fun _ => False) rfl rfl ?aP (fun _ hk => hk.elim) ?aF ?aO ?aB ?aS ?aL ?_; (case aP => exact rfl); (case aB => exact (by repeat (first | (with_reducible first | exact HB.out | apply below_alloc | apply pw_below_drewN | apply below_drew1 | refine below_set ?_ GE154.out) | exact HB.out))); (case aF => exact (fun k_ hk => Kd.fresh' (Kd.R_lt (by (with_reducible repeat (first | apply Kd.R_alloc | apply Kd.R_drewN | apply Kd.R_drew)); exact HO_7.out)) k_ hk)); (case aO => exact (by (with_reducible repeat (first | apply Kd.R_alloc | apply Kd.R_drewN | apply Kd.R_drew)); exact HO_6.out)); (case aS => exact (below_size (by repeat (first | (with_reducible first | exact HB.out | apply below_alloc | apply pw_below_drewN | apply below_drew1 | refine below_set ?_ GE154.out) | exact HB.out)))); (case aL => have := LMc21.out; omega); intro v157 w33 ho hb hg hat; rw [← Ny156.out] at ho; have n0_ := Aside0.mk (Kd.R_after (ok := (fun _ => True)) (by (with_reducible repeat (first | apply Kd.R_alloc | apply Kd.R_drewN | apply Kd.R_drew)); exact Kd.R_mono HO_7.out (fun _ hk => ⟨trivial, hk⟩)) hg hat); have n1_ := Aside0.mk (Kd.N_afterv (ok := (fun k_ => some k_ ≠ (u7 : Value).ownBlock ∧ k_ ≠ gb154)) (by (with_reducible repeat (first | apply Kd.N_alloc | apply Kd.N_drewN | apply Kd.N_drew)); exact Kd.N_mono HO_8.out (fun _ hk => ⟨⟨hk.2.1, hk.2.2⟩, hk.1⟩)) hg hat); have n2_ := Aside0.mk (blk_grown (g := gb154) (o := .cells #[.string ((rd_T31 l0 x9_1).f0), .int .i64 ((rd_T31 l0 x9_1).f1), .int .i64 ((rd_T31 l0 x9_1).f2)] 31 (0, 0)) (by (with_reducible repeat (first | refine blk_drewN ?_ _ | refine blk_drew ?_ | refine blk_alloc ?_ _)); exact BK154.out) hg (Kd.R_ne HO_6.out BK154.out (by decide))); have n3_ := Aside0.mk (hb); have n4_ := Aside0.mk (ho); clear HO_7; clear HO_8; clear BK154; clear HB; clear HO_6; have HO_7 := n0_; have HO_8 := n1_; have BK154 := n2_; have HB := n3_; have HO158 := n4_; clear n0_ n1_ n2_ n3_ n4_; clear ho hb hg hat; have hcz34_0 : w33.cell? ⟨gb154, 0, none⟩ = some (.string ((rd_T31 l0 x9_1).f0)) := (blk_cell BK154.out 0).trans rfl; have hcz34_1 : w33.cell? ⟨gb154, 1, none⟩ = some (.int .i64 ((rd_T31 l0 x9_1).f1)) := (blk_cell BK154.out 1).trans rfl; have hcz34_2 : w33.cell? ⟨gb154, 2, none⟩ = some (.int .i64 ((rd_T31 l0 x9_1).f2)) := (blk_cell BK154.out 2).trans rfl; have hfz34_0 := blk_frozen BK154.out 0; have hfz34_1 := blk_frozen BK154.out 1; have hfz34_2 := blk_frozen BK154.out 2) | ((with_reducible refine gate_builtin (b := .append) (xs := #[.tmp 48, .tmp 51]) rfl ?_); at_builtin; refine Kd.R_append (Kd.int .i64) (w0 := w) w.heap.size rfl (.tmp 48) (.tmp 51) 78 2 (.int .i64 0) 8 rfl Tryz.underlying78 info2 rfl (by decide) (by omega) u7 x7_1 ((rd_T31 l0 x9_1).f2) [.int .i64 ((rd_T31 l0 x9_1).f2)] (fun k_ => some k_ ≠ (v157 : Value).ownBlock) (fun _ => False) rfl rfl ?aP (fun _ hk => hk.elim) ?aF ?aO ?aB ?aS ?aL ?_; (case aP => exact rfl); (case aB => exact (by repeat (first | (with_reducible first | exact HB.out | apply below_alloc | apply pw_below_drewN | apply below_drew1 | refine below_set ?_ GE154.out) | exact HB.out))); (case aF => exact (fun k_ hk => Kd.fresh' (Kd.R_lt (by (with_reducible repeat (first | apply Kd.R_alloc | apply Kd.R_drewN | apply Kd.R_drew)); exact HO158.out)) k_ hk)); (case aO => exact (by (with_reducible repeat (first | apply Kd.R_alloc | apply Kd.R_drewN | apply Kd.R_drew)); exact Kd.R_mono HO_7.out (fun _ hk => hk.2))); (case aS => exact (below_size (by repeat (first | (with_reducible first | exact HB.out | apply below_alloc | apply pw_below_drewN | apply below_drew1 | refine below_set ?_ GE154.out) | exact HB.out)))); (case aL => have := LMc22.out; omega); intro v160 w35 ho hb hg hat; rw [← Ny159.out] at ho; have n0_ := Aside0.mk (Kd.N_afterv (ok := (fun k_ => some k_ ≠ (v157 : Value).ownBlock ∧ k_ ≠ gb154)) (by (with_reducible repeat (first | apply Kd.N_alloc | apply Kd.N_drewN | apply Kd.N_drew)); exact Kd.N_mono HO_8.out (fun _ hk => ⟨⟨hk.2, hk.1.2⟩, hk.1.1⟩)) hg hat); have n1_ := Aside0.mk (blk_grown (g := gb154) (o := .cells #[.string ((rd_T31 l0 x9_1).f0), .int .i64 ((rd_T31 l0 x9_1).f1), .int .i64 ((rd_T31 l0 x9_1).f2)] 31 (0, 0)) (by (with_reducible repeat (first | refine blk_drewN ?_ _ | refine blk_drew ?_ | refine blk_alloc ?_ _)); exact BK154.out) hg (Kd.R_ne HO_7.out BK154.out (by decide))); have n2_ := Aside0.mk (Kd.R_after (ok := (fun _ => True)) (by (with_reducible repeat (first | apply Kd.R_alloc | apply Kd.R_drewN | apply Kd.R_drew)); exact Kd.R_mono HO158.out (fun _ hk => ⟨trivial, hk⟩)) hg hat); have n3_ := Aside0.mk (hb); have n4_ := Aside0.mk (ho); clear HO_8; clear BK154; clear HO158; clear HB; clear HO_7; have HO_8 := n0_; have BK154 := n1_; have HO158 := n2_; have HB := n3_; have HO161 := n4_; clear n0_ n1_ n2_ n3_ n4_; clear ho hb hg hat; have hcz36_0 : w35.cell? ⟨gb154, 0, none⟩ = some (.string ((rd_T31 l0 x9_1).f0)) := (blk_cell BK154.out 0).trans rfl; have hcz36_1 : w35.cell? ⟨gb154, 1, none⟩ = some (.int .i64 ((rd_T31 l0 x9_1).f1)) := (blk_cell BK154.out 1).trans rfl; have hcz36_2 : w35.cell? ⟨gb154, 2, none⟩ = some (.int .i64 ((rd_T31 l0 x9_1).f2)) := (blk_cell BK154.out 2).trans rfl; have hfz36_0 := blk_frozen BK154.out 0; have hfz36_1 := blk_frozen BK154.out 1; have hfz36_2 := blk_frozen BK154.out 2) | ((with_reducible refine gate_dst (N := 55) rfl ?_); refine Kd.R_lit Kd.string _ 9 ?hg (N := 55) ?hd (xs := ([((rd_T31 l0 x9_1).f0), (⟨#[]⟩ : ByteArray), (⟨#[]⟩ : ByteArray)] : List ByteArray)) (inner := [.string ((rd_T31 l0 x9_1).f0), .string (⟨#[]⟩ : ByteArray), .string (⟨#[]⟩ : ByteArray)]) (ok := fun _ => True) (okp := fun _ => True) ?hr ?hp (fun _ hk => hk) trivial (Below.refl _ _) (Nat.le_refl _) (by simp) ?_; (case hd => rfl); (case hg => rfl); (case hr => first | (go_simp; done) | (go_simp; rfl)); (case hp => exact (Reps.one (show Kd.M Kd.string _ _ _ ((rd_T31 l0 x9_1).f0) [.string ((rd_T31 l0 x9_1).f0)] from rfl) (Reps.one (show Kd.M Kd.string _ _ _ (⟨#[]⟩ : ByteArray) [.string (⟨#[]⟩ : ByteArray)] from rfl) (Reps.one (show Kd.M Kd.string _ _ _ (⟨#[]⟩ : ByteArray) [.string (⟨#[]⟩ : ByteArray)] from rfl) (Reps.none _ _))))); intro v163 w37 ho38 hb hg_ hnew_; clear hg_ hnew_; (first | rw [← Ny162.out] at ho38 | (simp only [Int.reduceToNat] at ho38; rw [← Ny162.out] at ho38)); have n0_ := Aside0.mk (Kd.N_elder' (by (with_reducible repeat (first | apply Kd.N_alloc | apply Kd.N_drewN | apply Kd.N_drew)); exact HO_8.out) (Kd.R_base ho38) hb); have n1_ := Aside0.mk (Kd.R_below (by (with_reducible repeat (first | apply Kd.R_alloc | apply Kd.R_drewN | apply Kd.R_drew)); exact HO158.out) hb); have n2_ := Aside0.mk (Kd.R_below (by (with_reducible repeat (first | apply Kd.R_alloc | apply Kd.R_drewN | apply Kd.R_drew)); exact HO161.out) hb); have n3_ := Aside0.mk (Kd.R_lower ho38 (below_size (by repeat (first | (with_reducible first | exact HB.out | apply below_alloc | apply pw_below_drewN | apply below_drew1 | refine below_set ?_ GE154.out) | exact HB.out)))); have n4_ := Aside0.mk (blk_below (g := gb154) (o := .cells #[.string ((rd_T31 l0 x9_1).f0), .int .i64 ((rd_T31 l0 x9_1).f1), .int .i64 ((rd_T31 l0 x9_1).f2)] 31 (0, 0)) (by (with_reducible repeat (first | refine blk_drewN ?_ _ | refine blk_drew ?_ | refine blk_alloc ?_ _)); exact BK154.out) hb); have n5_ := Aside0.mk (below_step (by repeat (first | (with_reducible first | exact HB.out | apply below_alloc | apply pw_below_drewN | apply below_drew1 | refine below_set ?_ GE154.out) | exact HB.out)) hb); clear HO_8; clear HO158; clear HO161; clear BK154; clear HB; have HO_8 := n0_; have HO158 := n1_; have HO161 := n2_; have HO164 := n3_; have BK154 := n4_; have HB := n5_; clear n0_ n1_ n2_ n3_ n4_ n5_; clear hb ho38; have hcz39_0 : w37.cell? ⟨gb154, 0, none⟩ = some (.string ((rd_T31 l0 x9_1).f0)) := (blk_cell BK154.out 0).trans rfl; have hcz39_1 : w37.cell? ⟨gb154, 1, none⟩ = some (.int .i64 ((rd_T31 l0 x9_1).f1)) := (blk_cell BK154.out 1).trans rfl; have hcz39_2 : w37.cell? ⟨gb154, 2, none⟩ = some (.int .i64 ((rd_T31 l0 x9_1).f2)) := (blk_cell BK154.out 2).trans rfl; have hfz39_0 := blk_frozen BK154.out 0; have hfz39_1 := blk_frozen BK154.out 1; have hfz39_2 := blk_frozen BK154.out 2) | ((with_reducible refine gate_callee (f := 50) rfl ?_); refine goesL_ (some 63) rfl rfl Tryz.func50 (by kernel_rfl) rfl #[.int .i64 ((rd_T31 l0 x9_1).f1), .int .i64 a1] rfl (by (try simp only [List.map_toArray, List.map_cons, List.map_nil]); first | done | rfl | (simp only [List.length_drop, List.length_take]; rfl)) ?_; (with_reducible refine (daybookref17_money.calls kj13 ((rd_T31 l0 x9_1).f1) a1 t165 _ A24.out).mono ?_); rintro e w40 ⟨rfl, hb⟩; refine ⟨_, rfl, ?_⟩; have n0_ := Aside0.mk (Kd.N_below (by (with_reducible repeat (first | apply Kd.N_alloc | apply Kd.N_drewN | apply Kd.N_drew)); exact HO_8.out) hb); have n1_ := Aside0.mk (Kd.R_below (by (with_reducible repeat (first | apply Kd.R_alloc | apply Kd.R_drewN | apply Kd.R_drew)); exact HO158.out) hb); have n2_ := Aside0.mk (Kd.R_below (by (with_reducible repeat (first | apply Kd.R_alloc | apply Kd.R_drewN | apply Kd.R_drew)); exact HO161.out) hb); have n3_ := Aside0.mk (Kd.R_below (by (with_reducible repeat (first | apply Kd.R_alloc | apply Kd.R_drewN | apply Kd.R_drew)); exact HO164.out) hb); have n4_ := Aside0.mk (blk_below (g := gb154) (o := .cells #[.string ((rd_T31 l0 x9_1).f0), .int .i64 ((rd_T31 l0 x9_1).f1), .int .i64 ((rd_T31 l0 x9_1).f2)] 31 (0, 0)) (by (with_reducible repeat (first | refine blk_drewN ?_ _ | refine blk_drew ?_ | refine blk_alloc ?_ _)); exact BK154.out) hb); have n5_ := Aside0.mk (below_step (by repeat (first | (with_reducible first | exact HB.out | apply below_alloc | apply pw_below_drewN | apply below_drew1 | refine below_set ?_ GE154.out) | exact HB.out)) hb); clear HO_8; clear HO158; clear HO161; clear HO164; clear BK154; clear HB; have HO_8 := n0_; have HO158 := n1_; have HO161 := n2_; have HO164 := n3_; have BK154 := n4_; have HB := n5_; clear n0_ n1_ n2_ n3_ n4_ n5_; (try clear hb); (try clear hb2); (try clear hk); (try clear hi); have p26 : 0 ≤ (1 : Int) := (by omega); have q26 : (1 : Int) < ((y162.length : Int) : Int) := of_decide_eq_true (by first | (with_reducible assumption) | assumption); have qi26 : (1 < y162.length) = True := eq_true (by omega); obtain ⟨go26, co26, eo26, gb26, gl26, cl26, HG26⟩ := Kd.R_form HO164.out (by omega); (first | cases eo26 | (injection eo26 with ea_ en_ ec_; (first | subst ea_ | (injection ea_ with ea_; subst ea_)); subst ec_; clear en_)); have GB26 := Aside0.mk gb26; have GG26 := Aside0.mk HG26; clear gb26 gl26 HG26; obtain ⟨hx26_0, hf26_0⟩ := Kd.R_celln (⟨#[]⟩ : ByteArray) HO164.out (1 : Int) p26 q26; (try rw [show ((1 : Int)).toNat = 1 from rfl] at hx26_0); (try simp only [Nat.reduceMul, Nat.zero_mul, Nat.zero_add, Nat.reduceAdd] at hx26_0); (try rw [show ((1 : Int)).toNat = 1 from rfl] at hf26_0); (try simp only [Nat.reduceMul, Nat.zero_mul, Nat.zero_add, Nat.reduceAdd] at hf26_0); replace p26 := eq_true p26; replace q26 := eq_true q26; obtain ⟨hy41_, hz41_⟩ := Kd.R_celln (⟨#[]⟩ : ByteArray) HO164.out (1 : Int) (by omega) (of_decide_eq_true (by first | (with_reducible assumption) | assumption)); (try simp only [Int.reduceToNat, Int.toNat_zero, Int.toNat_ofNat, Nat.reduceMul, Nat.zero_mul, Nat.zero_add] at hy41_ hz41_); (try rw [show ((1 : Int)).toNat = 1 from rfl] at hy41_); (try rw [show ((1 : Int)).toNat = 1 from rfl] at hz41_); have HP41 := Kd.R_putg HO164.out (1 : Int) t165) | ((with_reducible refine gate_store (t := 9) (p := 64) rfl ?_); refine store_event (t := 9) (p := 64) (v := ?vo_w42) (w1 := (w40.setCell ⟨go26, (1 : Int).toNat, none⟩ (.string t165))) ?hg ?ho ?hn ?hr ?_; (case ho => rfl); (case hg => rfl); (case hn => rfl); (case hr => first | (go_simp; done) | (go_simp; rfl)); intro w42 hw; have hg : w40.grownBy w42 (some go26) := (by rw [hw]; exact HP41.2); have hp_ : Kd.R Kd.string 9 w42 w.heap.size (fun _ => True) (.slice (some ⟨go26, 0, none⟩) y162.length co26) y166 := (by rw [hw, Ny166.out]; exact HP41.1); clear HP41; have n0_ := Aside0.mk (Kd.N_afterv (v := (.slice (some ⟨go26, 0, none⟩) y162.length co26)) (v1 := (.slice (some ⟨go26, 0, none⟩) y162.length co26)) (ok := (fun k_ => some k_ ≠ (v157 : Value).ownBlock ∧ some k_ ≠ (v160 : Value).ownBlock ∧ k_ ≠ gb154)) (by (with_reducible repeat (first | apply Kd.N_alloc | apply Kd.N_drewN | apply Kd.N_drew)); exact Kd.N_mono HO_8.out (fun _ hk => ⟨⟨hk.1.1.1, ⟨hk.1.2, hk.1.1.2⟩⟩, hk.2⟩)) hg (.inl rfl)); have n1_ := Aside0.mk (blk_grown (g := gb154) (o := .cells #[.string ((rd_T31 l0 x9_1).f0), .int .i64 ((rd_T31 l0 x9_1).f1), .int .i64 ((rd_T31 l0 x9_1).f2)] 31 (0, 0)) (by (with_reducible repeat (first | refine blk_drewN ?_ _ | refine blk_drew ?_ | refine blk_alloc ?_ _)); exact BK154.out) hg (Kd.R_ne HO164.out BK154.out (by decide))); have n2_ := Aside0.mk (Kd.R_over' (v := (.slice (some ⟨go26, 0, none⟩) y162.length co26)) (by (with_reducible repeat (first | apply Kd.R_alloc | apply Kd.R_drewN | apply Kd.R_drew)); exact HO158.out) (Kd.R_typed HO164.out) (by decide) hg); have n3_ := Aside0.mk (Kd.R_over' (v := (.slice (some ⟨go26, 0, none⟩) y162.length co26)) (by (with_reducible repeat (first | apply Kd.R_alloc | apply Kd.R_drewN | apply Kd.R_drew)); exact HO161.out) (Kd.R_typed HO164.out) (by decide) hg); have n4_ := Aside0.mk (hp_); have n5_ := Aside0.mk ((by rw [hw]; exact below_set (HB.out) GB26.out : Below w.heap.size w w42)); clear HO_8; clear BK154; clear HO158; clear HO161; clear HO164; clear HB; have HO_8 := n0_; have BK154 := n1_; have HO158 := n2_; have HO161 := n3_; have HO164 := n4_; have HB := n5_; clear n0_ n1_ n2_ n3_ n4_ n5_; clear hg hw hp_; have hcz43_0 : w42.cell? ⟨gb154, 0, none⟩ = some (.string ((rd_T31 l0 x9_1).f0)) := (blk_cell BK154.out 0).trans rfl; have hcz43_1 : w42.cell? ⟨gb154, 1, none⟩ = some (.int .i64 ((rd_T31 l0 x9_1).f1)) := (blk_cell BK154.out 1).trans rfl; have hcz43_2 : w42.cell? ⟨gb154, 2, none⟩ = some (.int .i64 ((rd_T31 l0 x9_1).f2)) := (blk_cell BK154.out 2).trans rfl; have hfz43_0 := blk_frozen BK154.out 0; have hfz43_1 := blk_frozen BK154.out 1; have hfz43_2 := blk_frozen BK154.out 2) | ((with_reducible refine gate_callee (f := 50) rfl ?_); refine goesL_ (some 72) rfl rfl Tryz.func50 (by kernel_rfl) rfl #[.int .i64 ((rd_T31 l0 x9_1).f2), .int .i64 a1] rfl (by (try simp only [List.map_toArray, List.map_cons, List.map_nil]); first | done | rfl | (simp only [List.length_drop, List.length_take]; rfl)) ?_; (with_reducible refine (daybookref17_money.calls kj13 ((rd_T31 l0 x9_1).f2) a1 t167 _ A28.out).mono ?_); rintro e w44 ⟨rfl, hb⟩; refine ⟨_, rfl, ?_⟩; have n0_ := Aside0.mk (Kd.N_below (by (with_reducible repeat (first | apply Kd.N_alloc | apply Kd.N_drewN | apply Kd.N_drew)); exact HO_8.out) hb); have n1_ := Aside0.mk (Kd.R_below (by (with_reducible repeat (first | apply Kd.R_alloc | apply Kd.R_drewN | apply Kd.R_drew)); exact HO158.out) hb); have n2_ := Aside0.mk (Kd.R_below (by (with_reducible repeat (first | apply Kd.R_alloc | apply Kd.R_drewN | apply Kd.R_drew)); exact HO161.out) hb); have n3_ := Aside0.mk (Kd.R_below (by (with_reducible repeat (first | apply Kd.R_alloc | apply Kd.R_drewN | apply Kd.R_drew)); exact HO164.out) hb); have n4_ := Aside0.mk (blk_below (g := gb154) (o := .cells #[.string ((rd_T31 l0 x9_1).f0), .int .i64 ((rd_T31 l0 x9_1).f1), .int .i64 ((rd_T31 l0 x9_1).f2)] 31 (0, 0)) (by (with_reducible repeat (first | refine blk_drewN ?_ _ | refine blk_drew ?_ | refine blk_alloc ?_ _)); exact BK154.out) hb); have n5_ := Aside0.mk (below_step (by repeat (first | (with_reducible first | exact HB.out | apply below_alloc | apply pw_below_drewN | apply below_drew1 | refine below_set ?_ GE154.out) | exact HB.out)) hb); clear HO_8; clear HO158; clear HO161; clear HO164; clear BK154; clear HB; have HO_8 := n0_; have HO158 := n1_; have HO161 := n2_; have HO164 := n3_; have BK154 := n4_; have HB := n5_; clear n0_ n1_ n2_ n3_ n4_ n5_; (try clear hb); (try clear hb2); (try clear hk); (try clear hi); have p30 : 0 ≤ (2 : Int) := (by omega); have q30 : (2 : Int) < ((y162.length : Int) : Int) := of_decide_eq_true (by first | (with_reducible assumption) | assumption); have qi30 : (2 < y162.length) = True := eq_true (by omega); obtain ⟨hx30_0, hf30_0⟩ := Kd.R_celln (⟨#[]⟩ : ByteArray) HO164.out (2 : Int) p30 q30; (try rw [show ((2 : Int)).toNat = 2 from rfl] at hx30_0); (try simp only [Nat.reduceMul, Nat.zero_mul, Nat.zero_add, Nat.reduceAdd] at hx30_0); (try rw [show ((2 : Int)).toNat = 2 from rfl] at hf30_0); (try simp only [Nat.reduceMul, Nat.zero_mul, Nat.zero_add, Nat.reduceAdd] at hf30_0); replace p30 := eq_true p30; replace q30 := eq_true q30; obtain ⟨hy45_, hz45_⟩ := Kd.R_celln (⟨#[]⟩ : ByteArray) HO164.out (2 : Int) (by omega) (of_decide_eq_true (by first | (with_reducible assumption) | assumption)); (try simp only [Int.reduceToNat, Int.toNat_zero, Int.toNat_ofNat, Nat.reduceMul, Nat.zero_mul, Nat.zero_add] at hy45_ hz45_); (try rw [show ((2 : Int)).toNat = 2 from rfl] at hy45_); (try rw [show ((2 : Int)).toNat = 2 from rfl] at hz45_); have HP45 := Kd.R_putg HO164.out (2 : Int) t167) | ((with_reducible refine gate_store (t := 9) (p := 73) rfl ?_); refine store_event (t := 9) (p := 73) (v := ?vo_w46) (w1 := (w44.setCell ⟨go26, (2 : Int).toNat, none⟩ (.string t167))) ?hg ?ho ?hn ?hr ?_; (case ho => rfl); (case hg => rfl); (case hn => rfl); (case hr => first | (go_simp; done) | (go_simp; rfl)); intro w46 hw; have hg : w44.grownBy w46 (some go26) := (by rw [hw]; exact HP45.2); have hp_ : Kd.R Kd.string 9 w46 w.heap.size (fun _ => True) (.slice (some ⟨go26, 0, none⟩) y162.length co26) y168 := (by rw [hw, Ny168.out]; exact HP45.1); clear HP45; have n0_ := Aside0.mk (Kd.N_afterv (v := (.slice (some ⟨go26, 0, none⟩) y162.length co26)) (v1 := (.slice (some ⟨go26, 0, none⟩) y162.length co26)) (ok := (fun k_ => some k_ ≠ (v157 : Value).ownBlock ∧ some k_ ≠ (v160 : Value).ownBlock ∧ k_ ≠ gb154)) (by (with_reducible repeat (first | apply Kd.N_alloc | apply Kd.N_drewN | apply Kd.N_drew)); exact HO_8.out) hg (.inl rfl)); have n1_ := Aside0.mk (blk_grown (g := gb154) (o := .cells #[.string ((rd_T31 l0 x9_1).f0), .int .i64 ((rd_T31 l0 x9_1).f1), .int .i64 ((rd_T31 l0 x9_1).f2)] 31 (0, 0)) (by (with_reducible repeat (first | refine blk_drewN ?_ _ | refine blk_drew ?_ | refine blk_alloc ?_ _)); exact BK154.out) hg (Kd.R_ne HO164.out BK154.out (by decide))); have n2_ := Aside0.mk (Kd.R_over' (v := (.slice (some ⟨go26, 0, none⟩) y162.length co26)) (by (with_reducible repeat (first | apply Kd.R_alloc | apply Kd.R_drewN | apply Kd.R_drew)); exact HO158.out) (Kd.R_typed HO164.out) (by decide) hg); have n3_ := Aside0.mk (Kd.R_over' (v := (.slice (some ⟨go26, 0, none⟩) y162.length co26)) (by (with_reducible repeat (first | apply Kd.R_alloc | apply Kd.R_drewN | apply Kd.R_drew)); exact HO161.out) (Kd.R_typed HO164.out) (by decide) hg); have n4_ := Aside0.mk (hp_); have n5_ := Aside0.mk ((by rw [hw]; exact below_set (HB.out) GB26.out : Below w.heap.size w w46)); clear HO_8; clear BK154; clear HO158; clear HO161; clear HO164; clear HB; have HO_8 := n0_; have BK154 := n1_; have HO158 := n2_; have HO161 := n3_; have HO164 := n4_; have HB := n5_; clear n0_ n1_ n2_ n3_ n4_ n5_; clear hg hw hp_) | ((with_reducible refine gate_builtin (b := .append) (xs := #[.tmp 74, .tmp 76]) rfl ?_); at_builtin; refine Kd.N_append (Kd.slice 9 Kd.string) (w0 := w) w.heap.size rfl (.tmp 74) (.tmp 76) 80 90 (.slice none 0 0) 24 rfl Tryz.underlying80 info90 rfl (by decide) (by omega) u8 x8_1 y168 [.slice (some ⟨go26, 0, none⟩) y162.length co26] (fun k_ => some k_ ≠ (v157 : Value).ownBlock ∧ some k_ ≠ (v160 : Value).ownBlock ∧ k_ ≠ gb154) (fun k_ => ((fun k_ => some k_ ≠ (v157 : Value).ownBlock ∧ some k_ ≠ (v160 : Value).ownBlock ∧ k_ ≠ gb154)) k_ ∧ some k_ ≠ (u8 : Value).ownBlock) rfl rfl ?aP (fun _ hk => hk) ?aF ?aO ?aB ?aS ?aL ?_; (case aP => first | exact (Kd.FK_slice_mk (Kd.R_reads' (Kd.R_mono (ok' := (fun k_ => ((fun k_ => some k_ ≠ (v157 : Value).ownBlock ∧ some k_ ≠ (v160 : Value).ownBlock ∧ k_ ≠ gb154)) k_ ∧ some k_ ≠ (u8 : Value).ownBlock)) (Kd.R_types (Kd.R_apart' (Kd.R_apart' (Kd.R_apart' (HO164.out) (Kd.R_typed HO158.out) (by decide)) (Kd.R_typed HO161.out) (by decide)) (Kd.N_typed HO_8.out) (by decide)) BK154.out (by decide)) (fun k_ hk => ⟨⟨hk.1.1.1.2, ⟨hk.1.1.2, hk.2⟩⟩, hk.1.2⟩))).2.1 (Kd.R_F (Kd.R_mono (ok' := (fun k_ => ((fun k_ => some k_ ≠ (v157 : Value).ownBlock ∧ some k_ ≠ (v160 : Value).ownBlock ∧ k_ ≠ gb154)) k_ ∧ some k_ ≠ (u8 : Value).ownBlock)) (Kd.R_types (Kd.R_apart' (Kd.R_apart' (Kd.R_apart' (HO164.out) (Kd.R_typed HO158.out) (by decide)) (Kd.R_typed HO161.out) (by decide)) (Kd.N_typed HO_8.out) (by decide)) BK154.out (by decide)) (fun k_ hk => ⟨⟨hk.1.1.1.2, ⟨hk.1.1.2, hk.2⟩⟩, hk.1.2⟩)))) | exact fk_row6 (Kd.R_mono (ok' := (fun k_ => ((fun k_ => some k_ ≠ (v157 : Value).ownBlock ∧ some k_ ≠ (v160 : Value).ownBlock ∧ k_ ≠ gb154)) k_ ∧ some k_ ≠ (u8 : Value).ownBlock)) (Kd.R_types (Kd.R_apart' (Kd.R_apart' (Kd.R_apart' (HO164.out) (Kd.R_typed HO158.out) (by decide)) (Kd.R_typed HO161.out) (by decide)) (Kd.N_typed HO_8.out) (by decide)) BK154.out (by decide)) (fun k_ hk => ⟨⟨hk.1.1.1.2, ⟨hk.1.1.2, hk.2⟩⟩, hk.1.2⟩))); (case aB => exact (by repeat (first | (with_reducible first | exact HB.out | apply below_alloc | apply pw_below_drewN | apply below_drew1 | refine below_set ?_ GE154.out) | exact HB.out))); (case aF => exact (fun k_ hk => ⟨Kd.fresh' (Kd.R_lt (by (with_reducible repeat (first | apply Kd.R_alloc | apply Kd.R_drewN | apply Kd.R_drew)); exact HO158.out)) k_ hk, Kd.fresh' (Kd.R_lt (by (with_reducible repeat (first | apply Kd.R_alloc | apply Kd.R_drewN | apply Kd.R_drew)); exact HO161.out)) k_ hk, Kd.freshB (g := gb154) (o := .cells #[.string ((rd_T31 l0 x9_1).f0), .int .i64 ((rd_T31 l0 x9_1).f1), .int .i64 ((rd_T31 l0 x9_1).f2)] 31 (0, 0)) (by (with_reducible repeat (first | refine blk_drewN ?_ _ | refine blk_drew ?_ | refine blk_alloc ?_ _)); exact BK154.out) k_ hk⟩)); (case aO => exact (by (with_reducible repeat (first | apply Kd.N_alloc | apply Kd.N_drewN | apply Kd.N_drew)); exact Kd.N_mono HO_8.out (fun _ hk => ⟨hk.1.1, ⟨hk.1.2.1, hk.1.2.2⟩⟩))); (case aS => exact (below_size (by repeat (first | (with_reducible first | exact HB.out | apply below_alloc | apply pw_below_drewN | apply below_drew1 | refine below_set ?_ GE154.out) | exact HB.out)))); (case aL => have := LMc31.out; omega); intro v170 w47 ho hb hg hat; rw [← Ny169.out] at ho; have n0_ := Aside0.mk (blk_grown (g := gb154) (o := .cells #[.string ((rd_T31 l0 x9_1).f0), .int .i64 ((rd_T31 l0 x9_1).f1), .int .i64 ((rd_T31 l0 x9_1).f2)] 31 (0, 0)) (by (with_reducible repeat (first | refine blk_drewN ?_ _ | refine blk_drew ?_ | refine blk_alloc ?_ _)); exact BK154.out) hg (Kd.N_ne HO_8.out BK154.out (by decide))); have n1_ := Aside0.mk (Kd.R_over' (by (with_reducible repeat (first | apply Kd.R_alloc | apply Kd.R_drewN | apply Kd.R_drew)); exact HO158.out) (Kd.N_typed (by (with_reducible repeat (first | apply Kd.N_alloc | apply Kd.N_drewN | apply Kd.N_drew)); exact HO_8.out)) (by decide) hg); have n2_ := Aside0.mk (Kd.R_over' (by (with_reducible repeat (first | apply Kd.R_alloc | apply Kd.R_drewN | apply Kd.R_drew)); exact HO161.out) (Kd.N_typed (by (with_reducible repeat (first | apply Kd.N_alloc | apply Kd.N_drewN | apply Kd.N_drew)); exact HO_8.out)) (by decide) hg); have n3_ := Aside0.mk (hb); have n4_ := Aside0.mk (ho); clear BK154; clear HO158; clear HO161; clear HB; clear HO_8; clear HO164; have BK154 := n0_; have HO158 := n1_; have HO161 := n2_; have HB := n3_; have HO171 := n4_; clear n0_ n1_ n2_ n3_ n4_; clear ho hb hg hat))
                                  go_roundg kj13
                                  case measure => have := HK1.out; have := HJ13.out; omega
                                  case rel => exact ⟨(y156), (y159), (y169), (wrap64 (x9_1 + 1)), (by first | rfl | (simp; done) | (simp [*]; done)), H', ⟨by have := HK1.out; have := HJ13.out; omega⟩, ⟨by (with_reducible repeat (first | apply Kd.R_alloc | apply Kd.R_drewN | apply Kd.R_drew)); exact Kd.R_mono HO158.out (fun _ hk => hk.2)⟩, ⟨by (with_reducible repeat (first | apply Kd.R_alloc | apply Kd.R_drewN | apply Kd.R_drew)); exact HO161.out⟩, ⟨by (with_reducible repeat (first | apply Kd.N_alloc | apply Kd.N_drewN | apply Kd.N_drew)); exact Kd.N_mono HO171.out (fun _ hk => ⟨hk.1, hk.2.1⟩)⟩, ⟨by repeat (first | (with_reducible first | exact HB.out | apply below_alloc | apply pw_below_drewN | apply below_drew1 | refine below_set ?_ GE154.out) | exact HB.out)⟩⟩
                                · rw [if_neg c31] at H
                                  exact absurd H (by simp)
                              · rw [if_neg c29] at H
                                exact absurd H (by simp)
                            · rw [if_neg c27] at H
                              have c27b0 : decide (0 < ((rd_T31 l0 x9_1).f2)) = false := decide_eq_false c27
                              clear c27
                              by_cases c48 : x8_1.length < 5864062014805
                              · rw [if_pos c48] at H
                                have LMc48 := Aside0.mk c48
                                clear c48
                                obtain ⟨y172, hy172⟩ : ∃ y_ : List (List ByteArray), y_ = (x8_1 ++ [y166]) := ⟨_, rfl⟩
                                replace H : (daybookref17_Trial.l0 kj13 l0 a1 y156 y159 y172 (wrap64 (x9_1 + 1))) = some (r1, r2) := by first | (rw [hy172]; with_reducible exact H) | (have H2_ := (Option.bind_some _ _).symm.trans H; rw [hy172]; with_reducible exact H2_) | (have H2_ := (Option.bind_some _ _).symm.trans H; with_reducible exact H2_) | with_reducible exact H | (rw [hy172]; exact H) | exact H
                                have Ny172 := Aside0.mk hy172
                                clear hy172
                                have H' := Aside0.mk H
                                clear H
                                have hcz49_0 : wc.cell? ⟨gb154, 0, none⟩ = some (.string ((rd_T31 l0 x9_1).f0)) := (blk_cell BK154.out 0).trans rfl
                                have hcz49_1 : wc.cell? ⟨gb154, 1, none⟩ = some (.int .i64 ((rd_T31 l0 x9_1).f1)) := (blk_cell BK154.out 1).trans rfl
                                have hcz49_2 : wc.cell? ⟨gb154, 2, none⟩ = some (.int .i64 ((rd_T31 l0 x9_1).f2)) := (blk_cell BK154.out 2).trans rfl
                                have hfz49_0 := blk_frozen BK154.out 0
                                have hfz49_1 := blk_frozen BK154.out 1
                                have hfz49_2 := blk_frozen BK154.out 2
                                go_wp2_with (first | ((with_reducible refine gate_builtin (b := .append) (xs := #[.tmp 43, .tmp 46]) rfl ?_); at_builtin; refine Kd.R_append (Kd.int .i64) (w0 := w) w.heap.size rfl (.tmp 43) (.tmp 46) 78 2 (.int .i64 0) 8 rfl Tryz.underlying78 info2 rfl (by decide) (by omega) u6 x6_1 ((rd_T31 l0 x9_1).f1) [.int .i64 ((rd_T31 l0 x9_1).f1)] (fun k_ => some k_ ≠ (u7 : Value).ownBlock) (fun _ => False) rfl rfl ?aP (fun _ hk => hk.elim) ?aF ?aO ?aB ?aS ?aL ?_; (case aP => exact rfl); (case aB => exact (by repeat (first | (with_reducible first | exact HB.out | apply below_alloc | apply pw_below_drewN | apply below_drew1 | refine below_set ?_ GE154.out) | exact HB.out))); (case aF => exact (fun k_ hk => Kd.fresh' (Kd.R_lt (by (with_reducible repeat (first | apply Kd.R_alloc | apply Kd.R_drewN | apply Kd.R_drew)); exact HO_7.out)) k_ hk)); (case aO => exact (by (with_reducible repeat (first | apply Kd.R_alloc | apply Kd.R_drewN | apply Kd.R_drew)); exact HO_6.out)); (case aS => exact (below_size (by repeat (first | (with_reducible first | exact HB.out | apply below_alloc | apply pw_below_drewN | apply below_drew1 | refine below_set ?_ GE154.out) | exact HB.out)))); (case aL => have := LMc21.out; omega); intro v157 w50 ho hb hg hat; rw [← Ny156.out] at ho; have n0_ := Aside0.mk (Kd.R_after (ok := (fun _ => True)) (by (with_reducible repeat (first | apply Kd.R_alloc | apply Kd.R_drewN | apply Kd.R_drew)); exact Kd.R_mono HO_7.out (fun _ hk => ⟨trivial, hk⟩)) hg hat); have n1_ := Aside0.mk (Kd.N_afterv (ok := (fun k_ => some k_ ≠ (u7 : Value).ownBlock ∧ k_ ≠ gb154)) (by (with_reducible repeat (first | apply Kd.N_alloc | apply Kd.N_drewN | apply Kd.N_drew)); exact Kd.N_mono HO_8.out (fun _ hk => ⟨⟨hk.2.1, hk.2.2⟩, hk.1⟩)) hg hat); have n2_ := Aside0.mk (blk_grown (g := gb154) (o := .cells #[.string ((rd_T31 l0 x9_1).f0), .int .i64 ((rd_T31 l0 x9_1).f1), .int .i64 ((rd_T31 l0 x9_1).f2)] 31 (0, 0)) (by (with_reducible repeat (first | refine blk_drewN ?_ _ | refine blk_drew ?_ | refine blk_alloc ?_ _)); exact BK154.out) hg (Kd.R_ne HO_6.out BK154.out (by decide))); have n3_ := Aside0.mk (hb); have n4_ := Aside0.mk (ho); clear HO_7; clear HO_8; clear BK154; clear HB; clear HO_6; have HO_7 := n0_; have HO_8 := n1_; have BK154 := n2_; have HB := n3_; have HO158 := n4_; clear n0_ n1_ n2_ n3_ n4_; clear ho hb hg hat; have hcz51_0 : w50.cell? ⟨gb154, 0, none⟩ = some (.string ((rd_T31 l0 x9_1).f0)) := (blk_cell BK154.out 0).trans rfl; have hcz51_1 : w50.cell? ⟨gb154, 1, none⟩ = some (.int .i64 ((rd_T31 l0 x9_1).f1)) := (blk_cell BK154.out 1).trans rfl; have hcz51_2 : w50.cell? ⟨gb154, 2, none⟩ = some (.int .i64 ((rd_T31 l0 x9_1).f2)) := (blk_cell BK154.out 2).trans rfl; have hfz51_0 := blk_frozen BK154.out 0; have hfz51_1 := blk_frozen BK154.out 1; have hfz51_2 := blk_frozen BK154.out 2) | ((with_reducible refine gate_builtin (b := .append) (xs := #[.tmp 48, .tmp 51]) rfl ?_); at_builtin; refine Kd.R_append (Kd.int .i64) (w0 := w) w.heap.size rfl (.tmp 48) (.tmp 51) 78 2 (.int .i64 0) 8 rfl Tryz.underlying78 info2 rfl (by decide) (by omega) u7 x7_1 ((rd_T31 l0 x9_1).f2) [.int .i64 ((rd_T31 l0 x9_1).f2)] (fun k_ => some k_ ≠ (v157 : Value).ownBlock) (fun _ => False) rfl rfl ?aP (fun _ hk => hk.elim) ?aF ?aO ?aB ?aS ?aL ?_; (case aP => exact rfl); (case aB => exact (by repeat (first | (with_reducible first | exact HB.out | apply below_alloc | apply pw_below_drewN | apply below_drew1 | refine below_set ?_ GE154.out) | exact HB.out))); (case aF => exact (fun k_ hk => Kd.fresh' (Kd.R_lt (by (with_reducible repeat (first | apply Kd.R_alloc | apply Kd.R_drewN | apply Kd.R_drew)); exact HO158.out)) k_ hk)); (case aO => exact (by (with_reducible repeat (first | apply Kd.R_alloc | apply Kd.R_drewN | apply Kd.R_drew)); exact Kd.R_mono HO_7.out (fun _ hk => hk.2))); (case aS => exact (below_size (by repeat (first | (with_reducible first | exact HB.out | apply below_alloc | apply pw_below_drewN | apply below_drew1 | refine below_set ?_ GE154.out) | exact HB.out)))); (case aL => have := LMc22.out; omega); intro v160 w52 ho hb hg hat; rw [← Ny159.out] at ho; have n0_ := Aside0.mk (Kd.N_afterv (ok := (fun k_ => some k_ ≠ (v157 : Value).ownBlock ∧ k_ ≠ gb154)) (by (with_reducible repeat (first | apply Kd.N_alloc | apply Kd.N_drewN | apply Kd.N_drew)); exact Kd.N_mono HO_8.out (fun _ hk => ⟨⟨hk.2, hk.1.2⟩, hk.1.1⟩)) hg hat); have n1_ := Aside0.mk (blk_grown (g := gb154) (o := .cells #[.string ((rd_T31 l0 x9_1).f0), .int .i64 ((rd_T31 l0 x9_1).f1), .int .i64 ((rd_T31 l0 x9_1).f2)] 31 (0, 0)) (by (with_reducible repeat (first | refine blk_drewN ?_ _ | refine blk_drew ?_ | refine blk_alloc ?_ _)); exact BK154.out) hg (Kd.R_ne HO_7.out BK154.out (by decide))); have n2_ := Aside0.mk (Kd.R_after (ok := (fun _ => True)) (by (with_reducible repeat (first | apply Kd.R_alloc | apply Kd.R_drewN | apply Kd.R_drew)); exact Kd.R_mono HO158.out (fun _ hk => ⟨trivial, hk⟩)) hg hat); have n3_ := Aside0.mk (hb); have n4_ := Aside0.mk (ho); clear HO_8; clear BK154; clear HO158; clear HB; clear HO_7; have HO_8 := n0_; have BK154 := n1_; have HO158 := n2_; have HB := n3_; have HO161 := n4_; clear n0_ n1_ n2_ n3_ n4_; clear ho hb hg hat; have hcz53_0 : w52.cell? ⟨gb154, 0, none⟩ = some (.string ((rd_T31 l0 x9_1).f0)) := (blk_cell BK154.out 0).trans rfl; have hcz53_1 : w52.cell? ⟨gb154, 1, none⟩ = some (.int .i64 ((rd_T31 l0 x9_1).f1)) := (blk_cell BK154.out 1).trans rfl; have hcz53_2 : w52.cell? ⟨gb154, 2, none⟩ = some (.int .i64 ((rd_T31 l0 x9_1).f2)) := (blk_cell BK154.out 2).trans rfl; have hfz53_0 := blk_frozen BK154.out 0; have hfz53_1 := blk_frozen BK154.out 1; have hfz53_2 := blk_frozen BK154.out 2) | ((with_reducible refine gate_dst (N := 55) rfl ?_); refine Kd.R_lit Kd.string _ 9 ?hg (N := 55) ?hd (xs := ([((rd_T31 l0 x9_1).f0), (⟨#[]⟩ : ByteArray), (⟨#[]⟩ : ByteArray)] : List ByteArray)) (inner := [.string ((rd_T31 l0 x9_1).f0), .string (⟨#[]⟩ : ByteArray), .string (⟨#[]⟩ : ByteArray)]) (ok := fun _ => True) (okp := fun _ => True) ?hr ?hp (fun _ hk => hk) trivial (Below.refl _ _) (Nat.le_refl _) (by simp) ?_; (case hd => rfl); (case hg => rfl); (case hr => first | (go_simp; done) | (go_simp; rfl)); (case hp => exact (Reps.one (show Kd.M Kd.string _ _ _ ((rd_T31 l0 x9_1).f0) [.string ((rd_T31 l0 x9_1).f0)] from rfl) (Reps.one (show Kd.M Kd.string _ _ _ (⟨#[]⟩ : ByteArray) [.string (⟨#[]⟩ : ByteArray)] from rfl) (Reps.one (show Kd.M Kd.string _ _ _ (⟨#[]⟩ : ByteArray) [.string (⟨#[]⟩ : ByteArray)] from rfl) (Reps.none _ _))))); intro v163 w54 ho55 hb hg_ hnew_; clear hg_ hnew_; (first | rw [← Ny162.out] at ho55 | (simp only [Int.reduceToNat] at ho55; rw [← Ny162.out] at ho55)); have n0_ := Aside0.mk (Kd.N_elder' (by (with_reducible repeat (first | apply Kd.N_alloc | apply Kd.N_drewN | apply Kd.N_drew)); exact HO_8.out) (Kd.R_base ho55) hb); have n1_ := Aside0.mk (Kd.R_below (by (with_reducible repeat (first | apply Kd.R_alloc | apply Kd.R_drewN | apply Kd.R_drew)); exact HO158.out) hb); have n2_ := Aside0.mk (Kd.R_below (by (with_reducible repeat (first | apply Kd.R_alloc | apply Kd.R_drewN | apply Kd.R_drew)); exact HO161.out) hb); have n3_ := Aside0.mk (Kd.R_lower ho55 (below_size (by repeat (first | (with_reducible first | exact HB.out | apply below_alloc | apply pw_below_drewN | apply below_drew1 | refine below_set ?_ GE154.out) | exact HB.out)))); have n4_ := Aside0.mk (blk_below (g := gb154) (o := .cells #[.string ((rd_T31 l0 x9_1).f0), .int .i64 ((rd_T31 l0 x9_1).f1), .int .i64 ((rd_T31 l0 x9_1).f2)] 31 (0, 0)) (by (with_reducible repeat (first | refine blk_drewN ?_ _ | refine blk_drew ?_ | refine blk_alloc ?_ _)); exact BK154.out) hb); have n5_ := Aside0.mk (below_step (by repeat (first | (with_reducible first | exact HB.out | apply below_alloc | apply pw_below_drewN | apply below_drew1 | refine below_set ?_ GE154.out) | exact HB.out)) hb); clear HO_8; clear HO158; clear HO161; clear BK154; clear HB; have HO_8 := n0_; have HO158 := n1_; have HO161 := n2_; have HO164 := n3_; have BK154 := n4_; have HB := n5_; clear n0_ n1_ n2_ n3_ n4_ n5_; clear hb ho55; have hcz56_0 : w54.cell? ⟨gb154, 0, none⟩ = some (.string ((rd_T31 l0 x9_1).f0)) := (blk_cell BK154.out 0).trans rfl; have hcz56_1 : w54.cell? ⟨gb154, 1, none⟩ = some (.int .i64 ((rd_T31 l0 x9_1).f1)) := (blk_cell BK154.out 1).trans rfl; have hcz56_2 : w54.cell? ⟨gb154, 2, none⟩ = some (.int .i64 ((rd_T31 l0 x9_1).f2)) := (blk_cell BK154.out 2).trans rfl; have hfz56_0 := blk_frozen BK154.out 0; have hfz56_1 := blk_frozen BK154.out 1; have hfz56_2 := blk_frozen BK154.out 2) | ((with_reducible refine gate_callee (f := 50) rfl ?_); refine goesL_ (some 63) rfl rfl Tryz.func50 (by kernel_rfl) rfl #[.int .i64 ((rd_T31 l0 x9_1).f1), .int .i64 a1] rfl (by (try simp only [List.map_toArray, List.map_cons, List.map_nil]); first | done | rfl | (simp only [List.length_drop, List.length_take]; rfl)) ?_; (with_reducible refine (daybookref17_money.calls kj13 ((rd_T31 l0 x9_1).f1) a1 t165 _ A24.out).mono ?_); rintro e w57 ⟨rfl, hb⟩; refine ⟨_, rfl, ?_⟩; have n0_ := Aside0.mk (Kd.N_below (by (with_reducible repeat (first | apply Kd.N_alloc | apply Kd.N_drewN | apply Kd.N_drew)); exact HO_8.out) hb); have n1_ := Aside0.mk (Kd.R_below (by (with_reducible repeat (first | apply Kd.R_alloc | apply Kd.R_drewN | apply Kd.R_drew)); exact HO158.out) hb); have n2_ := Aside0.mk (Kd.R_below (by (with_reducible repeat (first | apply Kd.R_alloc | apply Kd.R_drewN | apply Kd.R_drew)); exact HO161.out) hb); have n3_ := Aside0.mk (Kd.R_below (by (with_reducible repeat (first | apply Kd.R_alloc | apply Kd.R_drewN | apply Kd.R_drew)); exact HO164.out) hb); have n4_ := Aside0.mk (blk_below (g := gb154) (o := .cells #[.string ((rd_T31 l0 x9_1).f0), .int .i64 ((rd_T31 l0 x9_1).f1), .int .i64 ((rd_T31 l0 x9_1).f2)] 31 (0, 0)) (by (with_reducible repeat (first | refine blk_drewN ?_ _ | refine blk_drew ?_ | refine blk_alloc ?_ _)); exact BK154.out) hb); have n5_ := Aside0.mk (below_step (by repeat (first | (with_reducible first | exact HB.out | apply below_alloc | apply pw_below_drewN | apply below_drew1 | refine below_set ?_ GE154.out) | exact HB.out)) hb); clear HO_8; clear HO158; clear HO161; clear HO164; clear BK154; clear HB; have HO_8 := n0_; have HO158 := n1_; have HO161 := n2_; have HO164 := n3_; have BK154 := n4_; have HB := n5_; clear n0_ n1_ n2_ n3_ n4_ n5_; (try clear hb); (try clear hb2); (try clear hk); (try clear hi); have p26 : 0 ≤ (1 : Int) := (by omega); have q26 : (1 : Int) < ((y162.length : Int) : Int) := of_decide_eq_true (by first | (with_reducible assumption) | assumption); have qi26 : (1 < y162.length) = True := eq_true (by omega); obtain ⟨go26, co26, eo26, gb26, gl26, cl26, HG26⟩ := Kd.R_form HO164.out (by omega); (first | cases eo26 | (injection eo26 with ea_ en_ ec_; (first | subst ea_ | (injection ea_ with ea_; subst ea_)); subst ec_; clear en_)); have GB26 := Aside0.mk gb26; have GG26 := Aside0.mk HG26; clear gb26 gl26 HG26; obtain ⟨hx26_0, hf26_0⟩ := Kd.R_celln (⟨#[]⟩ : ByteArray) HO164.out (1 : Int) p26 q26; (try rw [show ((1 : Int)).toNat = 1 from rfl] at hx26_0); (try simp only [Nat.reduceMul, Nat.zero_mul, Nat.zero_add, Nat.reduceAdd] at hx26_0); (try rw [show ((1 : Int)).toNat = 1 from rfl] at hf26_0); (try simp only [Nat.reduceMul, Nat.zero_mul, Nat.zero_add, Nat.reduceAdd] at hf26_0); replace p26 := eq_true p26; replace q26 := eq_true q26; obtain ⟨hy58_, hz58_⟩ := Kd.R_celln (⟨#[]⟩ : ByteArray) HO164.out (1 : Int) (by omega) (of_decide_eq_true (by first | (with_reducible assumption) | assumption)); (try simp only [Int.reduceToNat, Int.toNat_zero, Int.toNat_ofNat, Nat.reduceMul, Nat.zero_mul, Nat.zero_add] at hy58_ hz58_); (try rw [show ((1 : Int)).toNat = 1 from rfl] at hy58_); (try rw [show ((1 : Int)).toNat = 1 from rfl] at hz58_); have HP58 := Kd.R_putg HO164.out (1 : Int) t165) | ((with_reducible refine gate_store (t := 9) (p := 64) rfl ?_); refine store_event (t := 9) (p := 64) (v := ?vo_w59) (w1 := (w57.setCell ⟨go26, (1 : Int).toNat, none⟩ (.string t165))) ?hg ?ho ?hn ?hr ?_; (case ho => rfl); (case hg => rfl); (case hn => rfl); (case hr => first | (go_simp; done) | (go_simp; rfl)); intro w59 hw; have hg : w57.grownBy w59 (some go26) := (by rw [hw]; exact HP58.2); have hp_ : Kd.R Kd.string 9 w59 w.heap.size (fun _ => True) (.slice (some ⟨go26, 0, none⟩) y162.length co26) y166 := (by rw [hw, Ny166.out]; exact HP58.1); clear HP58; have n0_ := Aside0.mk (Kd.N_afterv (v := (.slice (some ⟨go26, 0, none⟩) y162.length co26)) (v1 := (.slice (some ⟨go26, 0, none⟩) y162.length co26)) (ok := (fun k_ => some k_ ≠ (v157 : Value).ownBlock ∧ some k_ ≠ (v160 : Value).ownBlock ∧ k_ ≠ gb154)) (by (with_reducible repeat (first | apply Kd.N_alloc | apply Kd.N_drewN | apply Kd.N_drew)); exact Kd.N_mono HO_8.out (fun _ hk => ⟨⟨hk.1.1.1, ⟨hk.1.2, hk.1.1.2⟩⟩, hk.2⟩)) hg (.inl rfl)); have n1_ := Aside0.mk (blk_grown (g := gb154) (o := .cells #[.string ((rd_T31 l0 x9_1).f0), .int .i64 ((rd_T31 l0 x9_1).f1), .int .i64 ((rd_T31 l0 x9_1).f2)] 31 (0, 0)) (by (with_reducible repeat (first | refine blk_drewN ?_ _ | refine blk_drew ?_ | refine blk_alloc ?_ _)); exact BK154.out) hg (Kd.R_ne HO164.out BK154.out (by decide))); have n2_ := Aside0.mk (Kd.R_over' (v := (.slice (some ⟨go26, 0, none⟩) y162.length co26)) (by (with_reducible repeat (first | apply Kd.R_alloc | apply Kd.R_drewN | apply Kd.R_drew)); exact HO158.out) (Kd.R_typed HO164.out) (by decide) hg); have n3_ := Aside0.mk (Kd.R_over' (v := (.slice (some ⟨go26, 0, none⟩) y162.length co26)) (by (with_reducible repeat (first | apply Kd.R_alloc | apply Kd.R_drewN | apply Kd.R_drew)); exact HO161.out) (Kd.R_typed HO164.out) (by decide) hg); have n4_ := Aside0.mk (hp_); have n5_ := Aside0.mk ((by rw [hw]; exact below_set (HB.out) GB26.out : Below w.heap.size w w59)); clear HO_8; clear BK154; clear HO158; clear HO161; clear HO164; clear HB; have HO_8 := n0_; have BK154 := n1_; have HO158 := n2_; have HO161 := n3_; have HO164 := n4_; have HB := n5_; clear n0_ n1_ n2_ n3_ n4_ n5_; clear hg hw hp_; have hcz60_0 : w59.cell? ⟨gb154, 0, none⟩ = some (.string ((rd_T31 l0 x9_1).f0)) := (blk_cell BK154.out 0).trans rfl; have hcz60_1 : w59.cell? ⟨gb154, 1, none⟩ = some (.int .i64 ((rd_T31 l0 x9_1).f1)) := (blk_cell BK154.out 1).trans rfl; have hcz60_2 : w59.cell? ⟨gb154, 2, none⟩ = some (.int .i64 ((rd_T31 l0 x9_1).f2)) := (blk_cell BK154.out 2).trans rfl; have hfz60_0 := blk_frozen BK154.out 0; have hfz60_1 := blk_frozen BK154.out 1; have hfz60_2 := blk_frozen BK154.out 2) | ((with_reducible refine gate_builtin (b := .append) (xs := #[.tmp 74, .tmp 76]) rfl ?_); at_builtin; refine Kd.N_append (Kd.slice 9 Kd.string) (w0 := w) w.heap.size rfl (.tmp 74) (.tmp 76) 80 90 (.slice none 0 0) 24 rfl Tryz.underlying80 info90 rfl (by decide) (by omega) u8 x8_1 y166 [.slice (some ⟨go26, 0, none⟩) y162.length co26] (fun k_ => some k_ ≠ (v157 : Value).ownBlock ∧ some k_ ≠ (v160 : Value).ownBlock ∧ k_ ≠ gb154) (fun k_ => ((fun k_ => some k_ ≠ (v157 : Value).ownBlock ∧ some k_ ≠ (v160 : Value).ownBlock ∧ k_ ≠ gb154)) k_ ∧ some k_ ≠ (u8 : Value).ownBlock) rfl rfl ?aP (fun _ hk => hk) ?aF ?aO ?aB ?aS ?aL ?_; (case aP => first | exact (Kd.FK_slice_mk (Kd.R_reads' (Kd.R_mono (ok' := (fun k_ => ((fun k_ => some k_ ≠ (v157 : Value).ownBlock ∧ some k_ ≠ (v160 : Value).ownBlock ∧ k_ ≠ gb154)) k_ ∧ some k_ ≠ (u8 : Value).ownBlock)) (Kd.R_types (Kd.R_apart' (Kd.R_apart' (Kd.R_apart' (HO164.out) (Kd.R_typed HO158.out) (by decide)) (Kd.R_typed HO161.out) (by decide)) (Kd.N_typed HO_8.out) (by decide)) BK154.out (by decide)) (fun k_ hk => ⟨⟨hk.1.1.1.2, ⟨hk.1.1.2, hk.2⟩⟩, hk.1.2⟩))).2.1 (Kd.R_F (Kd.R_mono (ok' := (fun k_ => ((fun k_ => some k_ ≠ (v157 : Value).ownBlock ∧ some k_ ≠ (v160 : Value).ownBlock ∧ k_ ≠ gb154)) k_ ∧ some k_ ≠ (u8 : Value).ownBlock)) (Kd.R_types (Kd.R_apart' (Kd.R_apart' (Kd.R_apart' (HO164.out) (Kd.R_typed HO158.out) (by decide)) (Kd.R_typed HO161.out) (by decide)) (Kd.N_typed HO_8.out) (by decide)) BK154.out (by decide)) (fun k_ hk => ⟨⟨hk.1.1.1.2, ⟨hk.1.1.2, hk.2⟩⟩, hk.1.2⟩)))) | exact fk_row6 (Kd.R_mono (ok' := (fun k_ => ((fun k_ => some k_ ≠ (v157 : Value).ownBlock ∧ some k_ ≠ (v160 : Value).ownBlock ∧ k_ ≠ gb154)) k_ ∧ some k_ ≠ (u8 : Value).ownBlock)) (Kd.R_types (Kd.R_apart' (Kd.R_apart' (Kd.R_apart' (HO164.out) (Kd.R_typed HO158.out) (by decide)) (Kd.R_typed HO161.out) (by decide)) (Kd.N_typed HO_8.out) (by decide)) BK154.out (by decide)) (fun k_ hk => ⟨⟨hk.1.1.1.2, ⟨hk.1.1.2, hk.2⟩⟩, hk.1.2⟩))); (case aB => exact (by repeat (first | (with_reducible first | exact HB.out | apply below_alloc | apply pw_below_drewN | apply below_drew1 | refine below_set ?_ GE154.out) | exact HB.out))); (case aF => exact (fun k_ hk => ⟨Kd.fresh' (Kd.R_lt (by (with_reducible repeat (first | apply Kd.R_alloc | apply Kd.R_drewN | apply Kd.R_drew)); exact HO158.out)) k_ hk, Kd.fresh' (Kd.R_lt (by (with_reducible repeat (first | apply Kd.R_alloc | apply Kd.R_drewN | apply Kd.R_drew)); exact HO161.out)) k_ hk, Kd.freshB (g := gb154) (o := .cells #[.string ((rd_T31 l0 x9_1).f0), .int .i64 ((rd_T31 l0 x9_1).f1), .int .i64 ((rd_T31 l0 x9_1).f2)] 31 (0, 0)) (by (with_reducible repeat (first | refine blk_drewN ?_ _ | refine blk_drew ?_ | refine blk_alloc ?_ _)); exact BK154.out) k_ hk⟩)); (case aO => exact (by (with_reducible repeat (first | apply Kd.N_alloc | apply Kd.N_drewN | apply Kd.N_drew)); exact Kd.N_mono HO_8.out (fun _ hk => ⟨hk.1.1, ⟨hk.1.2.1, hk.1.2.2⟩⟩))); (case aS => exact (below_size (by repeat (first | (with_reducible first | exact HB.out | apply below_alloc | apply pw_below_drewN | apply below_drew1 | refine below_set ?_ GE154.out) | exact HB.out)))); (case aL => have := LMc48.out; omega); intro v173 w61 ho hb hg hat; rw [← Ny172.out] at ho; have n0_ := Aside0.mk (blk_grown (g := gb154) (o := .cells #[.string ((rd_T31 l0 x9_1).f0), .int .i64 ((rd_T31 l0 x9_1).f1), .int .i64 ((rd_T31 l0 x9_1).f2)] 31 (0, 0)) (by (with_reducible repeat (first | refine blk_drewN ?_ _ | refine blk_drew ?_ | refine blk_alloc ?_ _)); exact BK154.out) hg (Kd.N_ne HO_8.out BK154.out (by decide))); have n1_ := Aside0.mk (Kd.R_over' (by (with_reducible repeat (first | apply Kd.R_alloc | apply Kd.R_drewN | apply Kd.R_drew)); exact HO158.out) (Kd.N_typed (by (with_reducible repeat (first | apply Kd.N_alloc | apply Kd.N_drewN | apply Kd.N_drew)); exact HO_8.out)) (by decide) hg); have n2_ := Aside0.mk (Kd.R_over' (by (with_reducible repeat (first | apply Kd.R_alloc | apply Kd.R_drewN | apply Kd.R_drew)); exact HO161.out) (Kd.N_typed (by (with_reducible repeat (first | apply Kd.N_alloc | apply Kd.N_drewN | apply Kd.N_drew)); exact HO_8.out)) (by decide) hg); have n3_ := Aside0.mk (hb); have n4_ := Aside0.mk (ho); clear BK154; clear HO158; clear HO161; clear HB; clear HO_8; clear HO164; have BK154 := n0_; have HO158 := n1_; have HO161 := n2_; have HB := n3_; have HO174 := n4_; clear n0_ n1_ n2_ n3_ n4_; clear ho hb hg hat))
                                go_roundg kj13
                                case measure => have := HK1.out; have := HJ13.out; omega
                                case rel => exact ⟨(y156), (y159), (y172), (wrap64 (x9_1 + 1)), (by first | rfl | (simp; done) | (simp [*]; done)), H', ⟨by have := HK1.out; have := HJ13.out; omega⟩, ⟨by (with_reducible repeat (first | apply Kd.R_alloc | apply Kd.R_drewN | apply Kd.R_drew)); exact Kd.R_mono HO158.out (fun _ hk => hk.2)⟩, ⟨by (with_reducible repeat (first | apply Kd.R_alloc | apply Kd.R_drewN | apply Kd.R_drew)); exact HO161.out⟩, ⟨by (with_reducible repeat (first | apply Kd.N_alloc | apply Kd.N_drewN | apply Kd.N_drew)); exact Kd.N_mono HO174.out (fun _ hk => ⟨hk.1, hk.2.1⟩)⟩, ⟨by repeat (first | (with_reducible first | exact HB.out | apply below_alloc | apply pw_below_drewN | apply below_drew1 | refine below_set ?_ GE154.out) | exact HB.out)⟩⟩
                              · rw [if_neg c48] at H
                                exact absurd H (by simp)
                          · rw [if_neg c25] at H
                            exact absurd H (by simp)
                        · rw [if_neg c23] at H
                          have c23b0 : decide (0 < ((rd_T31 l0 x9_1).f1)) = false := decide_eq_false c23
                          clear c23
                          by_cases c62 : ((rd_T31 l0 x9_1).f2) > 0
                          · rw [if_pos c62] at H
                            have c62b0 : decide (0 < ((rd_T31 l0 x9_1).f2)) = true := decide_eq_true c62
                            clear c62
                            replace H := Option.bind_eq_some_iff.mp H
                            obtain ⟨t175, A630, H⟩ := H
                            replace H : (if 2 < (y162.length : Int) then (if x8_1.length < 5864062014805 then (daybookref17_Trial.l0 kj13 l0 a1 y156 y159 (x8_1 ++ [(y162.set (2 : Int).toNat t175)]) (wrap64 (x9_1 + 1))) else (none)) else (none)) = some (r1, r2) := H
                            have A63 := Aside0.mk A630
                            clear A630
                            by_cases c64 : 2 < (y162.length : Int)
                            · rw [if_pos c64] at H
                              have c64b0 : decide (2 < (y162.length : Int)) = true := decide_eq_true c64
                              have c64b1 : decide (2 < y162.length) = true := decide_eq_true (by omega)
                              clear c64
                              obtain ⟨y176, hy176⟩ : ∃ y_ : List ByteArray, y_ = (y162.set (2 : Int).toNat t175) := ⟨_, rfl⟩
                              replace H : (if x8_1.length < 5864062014805 then (daybookref17_Trial.l0 kj13 l0 a1 y156 y159 (x8_1 ++ [y176]) (wrap64 (x9_1 + 1))) else (none)) = some (r1, r2) := by first | (rw [hy176]; with_reducible exact H) | (have H2_ := (Option.bind_some _ _).symm.trans H; rw [hy176]; with_reducible exact H2_) | (have H2_ := (Option.bind_some _ _).symm.trans H; with_reducible exact H2_) | with_reducible exact H | (rw [hy176]; exact H) | exact H
                              have Ny176 := Aside0.mk hy176
                              clear hy176
                              by_cases c66 : x8_1.length < 5864062014805
                              · rw [if_pos c66] at H
                                have LMc66 := Aside0.mk c66
                                clear c66
                                obtain ⟨y177, hy177⟩ : ∃ y_ : List (List ByteArray), y_ = (x8_1 ++ [y176]) := ⟨_, rfl⟩
                                replace H : (daybookref17_Trial.l0 kj13 l0 a1 y156 y159 y177 (wrap64 (x9_1 + 1))) = some (r1, r2) := by first | (rw [hy177]; with_reducible exact H) | (have H2_ := (Option.bind_some _ _).symm.trans H; rw [hy177]; with_reducible exact H2_) | (have H2_ := (Option.bind_some _ _).symm.trans H; with_reducible exact H2_) | with_reducible exact H | (rw [hy177]; exact H) | exact H
                                have Ny177 := Aside0.mk hy177
                                clear hy177
                                have H' := Aside0.mk H
                                clear H
                                have hcz67_0 : wc.cell? ⟨gb154, 0, none⟩ = some (.string ((rd_T31 l0 x9_1).f0)) := (blk_cell BK154.out 0).trans rfl
                                have hcz67_1 : wc.cell? ⟨gb154, 1, none⟩ = some (.int .i64 ((rd_T31 l0 x9_1).f1)) := (blk_cell BK154.out 1).trans rfl
                                have hcz67_2 : wc.cell? ⟨gb154, 2, none⟩ = some (.int .i64 ((rd_T31 l0 x9_1).f2)) := (blk_cell BK154.out 2).trans rfl
                                have hfz67_0 := blk_frozen BK154.out 0
                                have hfz67_1 := blk_frozen BK154.out 1
                                have hfz67_2 := blk_frozen BK154.out 2
                                go_wp2_with (first | ((with_reducible refine gate_builtin (b := .append) (xs := #[.tmp 43, .tmp 46]) rfl ?_); at_builtin; refine Kd.R_append (Kd.int .i64) (w0 := w) w.heap.size rfl (.tmp 43) (.tmp 46) 78 2 (.int .i64 0) 8 rfl Tryz.underlying78 info2 rfl (by decide) (by omega) u6 x6_1 ((rd_T31 l0 x9_1).f1) [.int .i64 ((rd_T31 l0 x9_1).f1)] (fun k_ => some k_ ≠ (u7 : Value).ownBlock) (fun _ => False) rfl rfl ?aP (fun _ hk => hk.elim) ?aF ?aO ?aB ?aS ?aL ?_; (case aP => exact rfl); (case aB => exact (by repeat (first | (with_reducible first | exact HB.out | apply below_alloc | apply pw_below_drewN | apply below_drew1 | refine below_set ?_ GE154.out) | exact HB.out))); (case aF => exact (fun k_ hk => Kd.fresh' (Kd.R_lt (by (with_reducible repeat (first | apply Kd.R_alloc | apply Kd.R_drewN | apply Kd.R_drew)); exact HO_7.out)) k_ hk)); (case aO => exact (by (with_reducible repeat (first | apply Kd.R_alloc | apply Kd.R_drewN | apply Kd.R_drew)); exact HO_6.out)); (case aS => exact (below_size (by repeat (first | (with_reducible first | exact HB.out | apply below_alloc | apply pw_below_drewN | apply below_drew1 | refine below_set ?_ GE154.out) | exact HB.out)))); (case aL => have := LMc21.out; omega); intro v157 w68 ho hb hg hat; rw [← Ny156.out] at ho; have n0_ := Aside0.mk (Kd.R_after (ok := (fun _ => True)) (by (with_reducible repeat (first | apply Kd.R_alloc | apply Kd.R_drewN | apply Kd.R_drew)); exact Kd.R_mono HO_7.out (fun _ hk => ⟨trivial, hk⟩)) hg hat); have n1_ := Aside0.mk (Kd.N_afterv (ok := (fun k_ => some k_ ≠ (u7 : Value).ownBlock ∧ k_ ≠ gb154)) (by (with_reducible repeat (first | apply Kd.N_alloc | apply Kd.N_drewN | apply Kd.N_drew)); exact Kd.N_mono HO_8.out (fun _ hk => ⟨⟨hk.2.1, hk.2.2⟩, hk.1⟩)) hg hat); have n2_ := Aside0.mk (blk_grown (g := gb154) (o := .cells #[.string ((rd_T31 l0 x9_1).f0), .int .i64 ((rd_T31 l0 x9_1).f1), .int .i64 ((rd_T31 l0 x9_1).f2)] 31 (0, 0)) (by (with_reducible repeat (first | refine blk_drewN ?_ _ | refine blk_drew ?_ | refine blk_alloc ?_ _)); exact BK154.out) hg (Kd.R_ne HO_6.out BK154.out (by decide))); have n3_ := Aside0.mk (hb); have n4_ := Aside0.mk (ho); clear HO_7; clear HO_8; clear BK154; clear HB; clear HO_6; have HO_7 := n0_; have HO_8 := n1_; have BK154 := n2_; have HB := n3_; have HO158 := n4_; clear n0_ n1_ n2_ n3_ n4_; clear ho hb hg hat; have hcz69_0 : w68.cell? ⟨gb154, 0, none⟩ = some (.string ((rd_T31 l0 x9_1).f0)) := (blk_cell BK154.out 0).trans rfl; have hcz69_1 : w68.cell? ⟨gb154, 1, none⟩ = some (.int .i64 ((rd_T31 l0 x9_1).f1)) := (blk_cell BK154.out 1).trans rfl; have hcz69_2 : w68.cell? ⟨gb154, 2, none⟩ = some (.int .i64 ((rd_T31 l0 x9_1).f2)) := (blk_cell BK154.out 2).trans rfl; have hfz69_0 := blk_frozen BK154.out 0; have hfz69_1 := blk_frozen BK154.out 1; have hfz69_2 := blk_frozen BK154.out 2) | ((with_reducible refine gate_builtin (b := .append) (xs := #[.tmp 48, .tmp 51]) rfl ?_); at_builtin; refine Kd.R_append (Kd.int .i64) (w0 := w) w.heap.size rfl (.tmp 48) (.tmp 51) 78 2 (.int .i64 0) 8 rfl Tryz.underlying78 info2 rfl (by decide) (by omega) u7 x7_1 ((rd_T31 l0 x9_1).f2) [.int .i64 ((rd_T31 l0 x9_1).f2)] (fun k_ => some k_ ≠ (v157 : Value).ownBlock) (fun _ => False) rfl rfl ?aP (fun _ hk => hk.elim) ?aF ?aO ?aB ?aS ?aL ?_; (case aP => exact rfl); (case aB => exact (by repeat (first | (with_reducible first | exact HB.out | apply below_alloc | apply pw_below_drewN | apply below_drew1 | refine below_set ?_ GE154.out) | exact HB.out))); (case aF => exact (fun k_ hk => Kd.fresh' (Kd.R_lt (by (with_reducible repeat (first | apply Kd.R_alloc | apply Kd.R_drewN | apply Kd.R_drew)); exact HO158.out)) k_ hk)); (case aO => exact (by (with_reducible repeat (first | apply Kd.R_alloc | apply Kd.R_drewN | apply Kd.R_drew)); exact Kd.R_mono HO_7.out (fun _ hk => hk.2))); (case aS => exact (below_size (by repeat (first | (with_reducible first | exact HB.out | apply below_alloc | apply pw_below_drewN | apply below_drew1 | refine below_set ?_ GE154.out) | exact HB.out)))); (case aL => have := LMc22.out; omega); intro v160 w70 ho hb hg hat; rw [← Ny159.out] at ho; have n0_ := Aside0.mk (Kd.N_afterv (ok := (fun k_ => some k_ ≠ (v157 : Value).ownBlock ∧ k_ ≠ gb154)) (by (with_reducible repeat (first | apply Kd.N_alloc | apply Kd.N_drewN | apply Kd.N_drew)); exact Kd.N_mono HO_8.out (fun _ hk => ⟨⟨hk.2, hk.1.2⟩, hk.1.1⟩)) hg hat); have n1_ := Aside0.mk (blk_grown (g := gb154) (o := .cells #[.string ((rd_T31 l0 x9_1).f0), .int .i64 ((rd_T31 l0 x9_1).f1), .int .i64 ((rd_T31 l0 x9_1).f2)] 31 (0, 0)) (by (with_reducible repeat (first | refine blk_drewN ?_ _ | refine blk_drew ?_ | refine blk_alloc ?_ _)); exact BK154.out) hg (Kd.R_ne HO_7.out BK154.out (by decide))); have n2_ := Aside0.mk (Kd.R_after (ok := (fun _ => True)) (by (with_reducible repeat (first | apply Kd.R_alloc | apply Kd.R_drewN | apply Kd.R_drew)); exact Kd.R_mono HO158.out (fun _ hk => ⟨trivial, hk⟩)) hg hat); have n3_ := Aside0.mk (hb); have n4_ := Aside0.mk (ho); clear HO_8; clear BK154; clear HO158; clear HB; clear HO_7; have HO_8 := n0_; have BK154 := n1_; have HO158 := n2_; have HB := n3_; have HO161 := n4_; clear n0_ n1_ n2_ n3_ n4_; clear ho hb hg hat; have hcz71_0 : w70.cell? ⟨gb154, 0, none⟩ = some (.string ((rd_T31 l0 x9_1).f0)) := (blk_cell BK154.out 0).trans rfl; have hcz71_1 : w70.cell? ⟨gb154, 1, none⟩ = some (.int .i64 ((rd_T31 l0 x9_1).f1)) := (blk_cell BK154.out 1).trans rfl; have hcz71_2 : w70.cell? ⟨gb154, 2, none⟩ = some (.int .i64 ((rd_T31 l0 x9_1).f2)) := (blk_cell BK154.out 2).trans rfl; have hfz71_0 := blk_frozen BK154.out 0; have hfz71_1 := blk_frozen BK154.out 1; have hfz71_2 := blk_frozen BK154.out 2) | ((with_reducible refine gate_dst (N := 55) rfl ?_); refine Kd.R_lit Kd.string _ 9 ?hg (N := 55) ?hd (xs := ([((rd_T31 l0 x9_1).f0), (⟨#[]⟩ : ByteArray), (⟨#[]⟩ : ByteArray)] : List ByteArray)) (inner := [.string ((rd_T31 l0 x9_1).f0), .string (⟨#[]⟩ : ByteArray), .string (⟨#[]⟩ : ByteArray)]) (ok := fun _ => True) (okp := fun _ => True) ?hr ?hp (fun _ hk => hk) trivial (Below.refl _ _) (Nat.le_refl _) (by simp) ?_; (case hd => rfl); (case hg => rfl); (case hr => first | (go_simp; done) | (go_simp; rfl)); (case hp => exact (Reps.one (show Kd.M Kd.string _ _ _ ((rd_T31 l0 x9_1).f0) [.string ((rd_T31 l0 x9_1).f0)] from rfl) (Reps.one (show Kd.M Kd.string _ _ _ (⟨#[]⟩ : ByteArray) [.string (⟨#[]⟩ : ByteArray)] from rfl) (Reps.one (show Kd.M Kd.string _ _ _ (⟨#[]⟩ : ByteArray) [.string (⟨#[]⟩ : ByteArray)] from rfl) (Reps.none _ _))))); intro v163 w72 ho73 hb hg_ hnew_; clear hg_ hnew_; (first | rw [← Ny162.out] at ho73 | (simp only [Int.reduceToNat] at ho73; rw [← Ny162.out] at ho73)); have n0_ := Aside0.mk (Kd.N_elder' (by (with_reducible repeat (first | apply Kd.N_alloc | apply Kd.N_drewN | apply Kd.N_drew)); exact HO_8.out) (Kd.R_base ho73) hb); have n1_ := Aside0.mk (Kd.R_below (by (with_reducible repeat (first | apply Kd.R_alloc | apply Kd.R_drewN | apply Kd.R_drew)); exact HO158.out) hb); have n2_ := Aside0.mk (Kd.R_below (by (with_reducible repeat (first | apply Kd.R_alloc | apply Kd.R_drewN | apply Kd.R_drew)); exact HO161.out) hb); have n3_ := Aside0.mk (Kd.R_lower ho73 (below_size (by repeat (first | (with_reducible first | exact HB.out | apply below_alloc | apply pw_below_drewN | apply below_drew1 | refine below_set ?_ GE154.out) | exact HB.out)))); have n4_ := Aside0.mk (blk_below (g := gb154) (o := .cells #[.string ((rd_T31 l0 x9_1).f0), .int .i64 ((rd_T31 l0 x9_1).f1), .int .i64 ((rd_T31 l0 x9_1).f2)] 31 (0, 0)) (by (with_reducible repeat (first | refine blk_drewN ?_ _ | refine blk_drew ?_ | refine blk_alloc ?_ _)); exact BK154.out) hb); have n5_ := Aside0.mk (below_step (by repeat (first | (with_reducible first | exact HB.out | apply below_alloc | apply pw_below_drewN | apply below_drew1 | refine below_set ?_ GE154.out) | exact HB.out)) hb); clear HO_8; clear HO158; clear HO161; clear BK154; clear HB; have HO_8 := n0_; have HO158 := n1_; have HO161 := n2_; have HO164 := n3_; have BK154 := n4_; have HB := n5_; clear n0_ n1_ n2_ n3_ n4_ n5_; clear hb ho73; have hcz74_0 : w72.cell? ⟨gb154, 0, none⟩ = some (.string ((rd_T31 l0 x9_1).f0)) := (blk_cell BK154.out 0).trans rfl; have hcz74_1 : w72.cell? ⟨gb154, 1, none⟩ = some (.int .i64 ((rd_T31 l0 x9_1).f1)) := (blk_cell BK154.out 1).trans rfl; have hcz74_2 : w72.cell? ⟨gb154, 2, none⟩ = some (.int .i64 ((rd_T31 l0 x9_1).f2)) := (blk_cell BK154.out 2).trans rfl; have hfz74_0 := blk_frozen BK154.out 0; have hfz74_1 := blk_frozen BK154.out 1; have hfz74_2 := blk_frozen BK154.out 2) | ((with_reducible refine gate_callee (f := 50) rfl ?_); refine goesL_ (some 72) rfl rfl Tryz.func50 (by kernel_rfl) rfl #[.int .i64 ((rd_T31 l0 x9_1).f2), .int .i64 a1] rfl (by (try simp only [List.map_toArray, List.map_cons, List.map_nil]); first | done | rfl | (simp only [List.length_drop, List.length_take]; rfl)) ?_; (with_reducible refine (daybookref17_money.calls kj13 ((rd_T31 l0 x9_1).f2) a1 t175 _ A63.out).mono ?_); rintro e w75 ⟨rfl, hb⟩; refine ⟨_, rfl, ?_⟩; have n0_ := Aside0.mk (Kd.N_below (by (with_reducible repeat (first | apply Kd.N_alloc | apply Kd.N_drewN | apply Kd.N_drew)); exact HO_8.out) hb); have n1_ := Aside0.mk (Kd.R_below (by (with_reducible repeat (first | apply Kd.R_alloc | apply Kd.R_drewN | apply Kd.R_drew)); exact HO158.out) hb); have n2_ := Aside0.mk (Kd.R_below (by (with_reducible repeat (first | apply Kd.R_alloc | apply Kd.R_drewN | apply Kd.R_drew)); exact HO161.out) hb); have n3_ := Aside0.mk (Kd.R_below (by (with_reducible repeat (first | apply Kd.R_alloc | apply Kd.R_drewN | apply Kd.R_drew)); exact HO164.out) hb); have n4_ := Aside0.mk (blk_below (g := gb154) (o := .cells #[.string ((rd_T31 l0 x9_1).f0), .int .i64 ((rd_T31 l0 x9_1).f1), .int .i64 ((rd_T31 l0 x9_1).f2)] 31 (0, 0)) (by (with_reducible repeat (first | refine blk_drewN ?_ _ | refine blk_drew ?_ | refine blk_alloc ?_ _)); exact BK154.out) hb); have n5_ := Aside0.mk (below_step (by repeat (first | (with_reducible first | exact HB.out | apply below_alloc | apply pw_below_drewN | apply below_drew1 | refine below_set ?_ GE154.out) | exact HB.out)) hb); clear HO_8; clear HO158; clear HO161; clear HO164; clear BK154; clear HB; have HO_8 := n0_; have HO158 := n1_; have HO161 := n2_; have HO164 := n3_; have BK154 := n4_; have HB := n5_; clear n0_ n1_ n2_ n3_ n4_ n5_; (try clear hb); (try clear hb2); (try clear hk); (try clear hi); have p65 : 0 ≤ (2 : Int) := (by omega); have q65 : (2 : Int) < ((y162.length : Int) : Int) := of_decide_eq_true (by first | (with_reducible assumption) | assumption); have qi65 : (2 < y162.length) = True := eq_true (by omega); obtain ⟨go65, co65, eo65, gb65, gl65, cl65, HG65⟩ := Kd.R_form HO164.out (by omega); (first | cases eo65 | (injection eo65 with ea_ en_ ec_; (first | subst ea_ | (injection ea_ with ea_; subst ea_)); subst ec_; clear en_)); have GB65 := Aside0.mk gb65; have GG65 := Aside0.mk HG65; clear gb65 gl65 HG65; obtain ⟨hx65_0, hf65_0⟩ := Kd.R_celln (⟨#[]⟩ : ByteArray) HO164.out (2 : Int) p65 q65; (try rw [show ((2 : Int)).toNat = 2 from rfl] at hx65_0); (try simp only [Nat.reduceMul, Nat.zero_mul, Nat.zero_add, Nat.reduceAdd] at hx65_0); (try rw [show ((2 : Int)).toNat = 2 from rfl] at hf65_0); (try simp only [Nat.reduceMul, Nat.zero_mul, Nat.zero_add, Nat.reduceAdd] at hf65_0); replace p65 := eq_true p65; replace q65 := eq_true q65; obtain ⟨hy76_, hz76_⟩ := Kd.R_celln (⟨#[]⟩ : ByteArray) HO164.out (2 : Int) (by omega) (of_decide_eq_true (by first | (with_reducible assumption) | assumption)); (try simp only [Int.reduceToNat, Int.toNat_zero, Int.toNat_ofNat, Nat.reduceMul, Nat.zero_mul, Nat.zero_add] at hy76_ hz76_); (try rw [show ((2 : Int)).toNat = 2 from rfl] at hy76_); (try rw [show ((2 : Int)).toNat = 2 from rfl] at hz76_); have HP76 := Kd.R_putg HO164.out (2 : Int) t175) | ((with_reducible refine gate_store (t := 9) (p := 73) rfl ?_); refine store_event (t := 9) (p := 73) (v := ?vo_w77) (w1 := (w75.setCell ⟨go65, (2 : Int).toNat, none⟩ (.string t175))) ?hg ?ho ?hn ?hr ?_; (case ho => rfl); (case hg => rfl); (case hn => rfl); (case hr => first | (go_simp; done) | (go_simp; rfl)); intro w77 hw; have hg : w75.grownBy w77 (some go65) := (by rw [hw]; exact HP76.2); have hp_ : Kd.R Kd.string 9 w77 w.heap.size (fun _ => True) (.slice (some ⟨go65, 0, none⟩) y162.length co65) y176 := (by rw [hw, Ny176.out]; exact HP76.1); clear HP76; have n0_ := Aside0.mk (Kd.N_afterv (v := (.slice (some ⟨go65, 0, none⟩) y162.length co65)) (v1 := (.slice (some ⟨go65, 0, none⟩) y162.length co65)) (ok := (fun k_ => some k_ ≠ (v157 : Value).ownBlock ∧ some k_ ≠ (v160 : Value).ownBlock ∧ k_ ≠ gb154)) (by (with_reducible repeat (first | apply Kd.N_alloc | apply Kd.N_drewN | apply Kd.N_drew)); exact Kd.N_mono HO_8.out (fun _ hk => ⟨⟨hk.1.1.1, ⟨hk.1.2, hk.1.1.2⟩⟩, hk.2⟩)) hg (.inl rfl)); have n1_ := Aside0.mk (blk_grown (g := gb154) (o := .cells #[.string ((rd_T31 l0 x9_1).f0), .int .i64 ((rd_T31 l0 x9_1).f1), .int .i64 ((rd_T31 l0 x9_1).f2)] 31 (0, 0)) (by (with_reducible repeat (first | refine blk_drewN ?_ _ | refine blk_drew ?_ | refine blk_alloc ?_ _)); exact BK154.out) hg (Kd.R_ne HO164.out BK154.out (by decide))); have n2_ := Aside0.mk (Kd.R_over' (v := (.slice (some ⟨go65, 0, none⟩) y162.length co65)) (by (with_reducible repeat (first | apply Kd.R_alloc | apply Kd.R_drewN | apply Kd.R_drew)); exact HO158.out) (Kd.R_typed HO164.out) (by decide) hg); have n3_ := Aside0.mk (Kd.R_over' (v := (.slice (some ⟨go65, 0, none⟩) y162.length co65)) (by (with_reducible repeat (first | apply Kd.R_alloc | apply Kd.R_drewN | apply Kd.R_drew)); exact HO161.out) (Kd.R_typed HO164.out) (by decide) hg); have n4_ := Aside0.mk (hp_); have n5_ := Aside0.mk ((by rw [hw]; exact below_set (HB.out) GB65.out : Below w.heap.size w w77)); clear HO_8; clear BK154; clear HO158; clear HO161; clear HO164; clear HB; have HO_8 := n0_; have BK154 := n1_; have HO158 := n2_; have HO161 := n3_; have HO164 := n4_; have HB := n5_; clear n0_ n1_ n2_ n3_ n4_ n5_; clear hg hw hp_) | ((with_reducible refine gate_builtin (b := .append) (xs := #[.tmp 74, .tmp 76]) rfl ?_); at_builtin; refine Kd.N_append (Kd.slice 9 Kd.string) (w0 := w) w.heap.size rfl (.tmp 74) (.tmp 76) 80 90 (.slice none 0 0) 24 rfl Tryz.underlying80 info90 rfl (by decide) (by omega) u8 x8_1 y176 [.slice (some ⟨go65, 0, none⟩) y162.length co65] (fun k_ => some k_ ≠ (v157 : Value).ownBlock ∧ some k_ ≠ (v160 : Value).ownBlock ∧ k_ ≠ gb154) (fun k_ => ((fun k_ => some k_ ≠ (v157 : Value).ownBlock ∧ some k_ ≠ (v160 : Value).ownBlock ∧ k_ ≠ gb154)) k_ ∧ some k_ ≠ (u8 : Value).ownBlock) rfl rfl ?aP (fun _ hk => hk) ?aF ?aO ?aB ?aS ?aL ?_; (case aP => first | exact (Kd.FK_slice_mk (Kd.R_reads' (Kd.R_mono (ok' := (fun k_ => ((fun k_ => some k_ ≠ (v157 : Value).ownBlock ∧ some k_ ≠ (v160 : Value).ownBlock ∧ k_ ≠ gb154)) k_ ∧ some k_ ≠ (u8 : Value).ownBlock)) (Kd.R_types (Kd.R_apart' (Kd.R_apart' (Kd.R_apart' (HO164.out) (Kd.R_typed HO158.out) (by decide)) (Kd.R_typed HO161.out) (by decide)) (Kd.N_typed HO_8.out) (by decide)) BK154.out (by decide)) (fun k_ hk => ⟨⟨hk.1.1.1.2, ⟨hk.1.1.2, hk.2⟩⟩, hk.1.2⟩))).2.1 (Kd.R_F (Kd.R_mono (ok' := (fun k_ => ((fun k_ => some k_ ≠ (v157 : Value).ownBlock ∧ some k_ ≠ (v160 : Value).ownBlock ∧ k_ ≠ gb154)) k_ ∧ some k_ ≠ (u8 : Value).ownBlock)) (Kd.R_types (Kd.R_apart' (Kd.R_apart' (Kd.R_apart' (HO164.out) (Kd.R_typed HO158.out) (by decide)) (Kd.R_typed HO161.out) (by decide)) (Kd.N_typed HO_8.out) (by decide)) BK154.out (by decide)) (fun k_ hk => ⟨⟨hk.1.1.1.2, ⟨hk.1.1.2, hk.2⟩⟩, hk.1.2⟩)))) | exact fk_row6 (Kd.R_mono (ok' := (fun k_ => ((fun k_ => some k_ ≠ (v157 : Value).ownBlock ∧ some k_ ≠ (v160 : Value).ownBlock ∧ k_ ≠ gb154)) k_ ∧ some k_ ≠ (u8 : Value).ownBlock)) (Kd.R_types (Kd.R_apart' (Kd.R_apart' (Kd.R_apart' (HO164.out) (Kd.R_typed HO158.out) (by decide)) (Kd.R_typed HO161.out) (by decide)) (Kd.N_typed HO_8.out) (by decide)) BK154.out (by decide)) (fun k_ hk => ⟨⟨hk.1.1.1.2, ⟨hk.1.1.2, hk.2⟩⟩, hk.1.2⟩))); (case aB => exact (by repeat (first | (with_reducible first | exact HB.out | apply below_alloc | apply pw_below_drewN | apply below_drew1 | refine below_set ?_ GE154.out) | exact HB.out))); (case aF => exact (fun k_ hk => ⟨Kd.fresh' (Kd.R_lt (by (with_reducible repeat (first | apply Kd.R_alloc | apply Kd.R_drewN | apply Kd.R_drew)); exact HO158.out)) k_ hk, Kd.fresh' (Kd.R_lt (by (with_reducible repeat (first | apply Kd.R_alloc | apply Kd.R_drewN | apply Kd.R_drew)); exact HO161.out)) k_ hk, Kd.freshB (g := gb154) (o := .cells #[.string ((rd_T31 l0 x9_1).f0), .int .i64 ((rd_T31 l0 x9_1).f1), .int .i64 ((rd_T31 l0 x9_1).f2)] 31 (0, 0)) (by (with_reducible repeat (first | refine blk_drewN ?_ _ | refine blk_drew ?_ | refine blk_alloc ?_ _)); exact BK154.out) k_ hk⟩)); (case aO => exact (by (with_reducible repeat (first | apply Kd.N_alloc | apply Kd.N_drewN | apply Kd.N_drew)); exact Kd.N_mono HO_8.out (fun _ hk => ⟨hk.1.1, ⟨hk.1.2.1, hk.1.2.2⟩⟩))); (case aS => exact (below_size (by repeat (first | (with_reducible first | exact HB.out | apply below_alloc | apply pw_below_drewN | apply below_drew1 | refine below_set ?_ GE154.out) | exact HB.out)))); (case aL => have := LMc66.out; omega); intro v178 w78 ho hb hg hat; rw [← Ny177.out] at ho; have n0_ := Aside0.mk (blk_grown (g := gb154) (o := .cells #[.string ((rd_T31 l0 x9_1).f0), .int .i64 ((rd_T31 l0 x9_1).f1), .int .i64 ((rd_T31 l0 x9_1).f2)] 31 (0, 0)) (by (with_reducible repeat (first | refine blk_drewN ?_ _ | refine blk_drew ?_ | refine blk_alloc ?_ _)); exact BK154.out) hg (Kd.N_ne HO_8.out BK154.out (by decide))); have n1_ := Aside0.mk (Kd.R_over' (by (with_reducible repeat (first | apply Kd.R_alloc | apply Kd.R_drewN | apply Kd.R_drew)); exact HO158.out) (Kd.N_typed (by (with_reducible repeat (first | apply Kd.N_alloc | apply Kd.N_drewN | apply Kd.N_drew)); exact HO_8.out)) (by decide) hg); have n2_ := Aside0.mk (Kd.R_over' (by (with_reducible repeat (first | apply Kd.R_alloc | apply Kd.R_drewN | apply Kd.R_drew)); exact HO161.out) (Kd.N_typed (by (with_reducible repeat (first | apply Kd.N_alloc | apply Kd.N_drewN | apply Kd.N_drew)); exact HO_8.out)) (by decide) hg); have n3_ := Aside0.mk (hb); have n4_ := Aside0.mk (ho); clear BK154; clear HO158; clear HO161; clear HB; clear HO_8; clear HO164; have BK154 := n0_; have HO158 := n1_; have HO161 := n2_; have HB := n3_; have HO179 := n4_; clear n0_ n1_ n2_ n3_ n4_; clear ho hb hg hat))
                                go_roundg kj13
                                case measure => have := HK1.out; have := HJ13.out; omega
                                case rel => exact ⟨(y156), (y159), (y177), (wrap64 (x9_1 + 1)), (by first | rfl | (simp; done) | (simp [*]; done)), H', ⟨by have := HK1.out; have := HJ13.out; omega⟩, ⟨by (with_reducible repeat (first | apply Kd.R_alloc | apply Kd.R_drewN | apply Kd.R_drew)); exact Kd.R_mono HO158.out (fun _ hk => hk.2)⟩, ⟨by (with_reducible repeat (first | apply Kd.R_alloc | apply Kd.R_drewN | apply Kd.R_drew)); exact HO161.out⟩, ⟨by (with_reducible repeat (first | apply Kd.N_alloc | apply Kd.N_drewN | apply Kd.N_drew)); exact Kd.N_mono HO179.out (fun _ hk => ⟨hk.1, hk.2.1⟩)⟩, ⟨by repeat (first | (with_reducible first | exact HB.out | apply below_alloc | apply pw_below_drewN | apply below_drew1 | refine below_set ?_ GE154.out) | exact HB.out)⟩⟩
                              · rw [if_neg c66] at H
                                exact absurd H (by simp)
                            · rw [if_neg c64] at H
                              exact absurd H (by simp)
                          · rw [if_neg c62] at H
                            have c62b0 : decide (0 < ((rd_T31 l0 x9_1).f2)) = false := decide_eq_false c62
                            clear c62
                            by_cases c79 : x8_1.length < 5864062014805
                            · rw [if_pos c79] at H
                              have LMc79 := Aside0.mk c79
                              clear c79
                              obtain ⟨y180, hy180⟩ : ∃ y_ : List (List ByteArray), y_ = (x8_1 ++ [y162]) := ⟨_, rfl⟩
                              replace H : (daybookref17_Trial.l0 kj13 l0 a1 y156 y159 y180 (wrap64 (x9_1 + 1))) = some (r1, r2) := by first | (rw [hy180]; with_reducible exact H) | (have H2_ := (Option.bind_some _ _).symm.trans H; rw [hy180]; with_reducible exact H2_) | (have H2_ := (Option.bind_some _ _).symm.trans H; with_reducible exact H2_) | with_reducible exact H | (rw [hy180]; exact H) | exact H
                              have Ny180 := Aside0.mk hy180
                              clear hy180
                              have H' := Aside0.mk H
                              clear H
                              have hcz80_0 : wc.cell? ⟨gb154, 0, none⟩ = some (.string ((rd_T31 l0 x9_1).f0)) := (blk_cell BK154.out 0).trans rfl
                              have hcz80_1 : wc.cell? ⟨gb154, 1, none⟩ = some (.int .i64 ((rd_T31 l0 x9_1).f1)) := (blk_cell BK154.out 1).trans rfl
                              have hcz80_2 : wc.cell? ⟨gb154, 2, none⟩ = some (.int .i64 ((rd_T31 l0 x9_1).f2)) := (blk_cell BK154.out 2).trans rfl
                              have hfz80_0 := blk_frozen BK154.out 0
                              have hfz80_1 := blk_frozen BK154.out 1
                              have hfz80_2 := blk_frozen BK154.out 2
                              go_wp2_with (first | ((with_reducible refine gate_builtin (b := .append) (xs := #[.tmp 43, .tmp 46]) rfl ?_); at_builtin; refine Kd.R_append (Kd.int .i64) (w0 := w) w.heap.size rfl (.tmp 43) (.tmp 46) 78 2 (.int .i64 0) 8 rfl Tryz.underlying78 info2 rfl (by decide) (by omega) u6 x6_1 ((rd_T31 l0 x9_1).f1) [.int .i64 ((rd_T31 l0 x9_1).f1)] (fun k_ => some k_ ≠ (u7 : Value).ownBlock) (fun _ => False) rfl rfl ?aP (fun _ hk => hk.elim) ?aF ?aO ?aB ?aS ?aL ?_; (case aP => exact rfl); (case aB => exact (by repeat (first | (with_reducible first | exact HB.out | apply below_alloc | apply pw_below_drewN | apply below_drew1 | refine below_set ?_ GE154.out) | exact HB.out))); (case aF => exact (fun k_ hk => Kd.fresh' (Kd.R_lt (by (with_reducible repeat (first | apply Kd.R_alloc | apply Kd.R_drewN | apply Kd.R_drew)); exact HO_7.out)) k_ hk)); (case aO => exact (by (with_reducible repeat (first | apply Kd.R_alloc | apply Kd.R_drewN | apply Kd.R_drew)); exact HO_6.out)); (case aS => exact (below_size (by repeat (first | (with_reducible first | exact HB.out | apply below_alloc | apply pw_below_drewN | apply below_drew1 | refine below_set ?_ GE154.out) | exact HB.out)))); (case aL => have := LMc21.out; omega); intro v157 w81 ho hb hg hat; rw [← Ny156.out] at ho; have n0_ := Aside0.mk (Kd.R_after (ok := (fun _ => True)) (by (with_reducible repeat (first | apply Kd.R_alloc | apply Kd.R_drewN | apply Kd.R_drew)); exact Kd.R_mono HO_7.out (fun _ hk => ⟨trivial, hk⟩)) hg hat); have n1_ := Aside0.mk (Kd.N_afterv (ok := (fun k_ => some k_ ≠ (u7 : Value).ownBlock ∧ k_ ≠ gb154)) (by (with_reducible repeat (first | apply Kd.N_alloc | apply Kd.N_drewN | apply Kd.N_drew)); exact Kd.N_mono HO_8.out (fun _ hk => ⟨⟨hk.2.1, hk.2.2⟩, hk.1⟩)) hg hat); have n2_ := Aside0.mk (blk_grown (g := gb154) (o := .cells #[.string ((rd_T31 l0 x9_1).f0), .int .i64 ((rd_T31 l0 x9_1).f1), .int .i64 ((rd_T31 l0 x9_1).f2)] 31 (0, 0)) (by (with_reducible repeat (first | refine blk_drewN ?_ _ | refine blk_drew ?_ | refine blk_alloc ?_ _)); exact BK154.out) hg (Kd.R_ne HO_6.out BK154.out (by decide))); have n3_ := Aside0.mk (hb); have n4_ := Aside0.mk (ho); clear HO_7; clear HO_8; clear BK154; clear HB; clear HO_6; have HO_7 := n0_; have HO_8 := n1_; have BK154 := n2_; have HB := n3_; have HO158 := n4_; clear n0_ n1_ n2_ n3_ n4_; clear ho hb hg hat; have hcz82_0 : w81.cell? ⟨gb154, 0, none⟩ = some (.string ((rd_T31 l0 x9_1).f0)) := (blk_cell BK154.out 0).trans rfl; have hcz82_1 : w81.cell? ⟨gb154, 1, none⟩ = some (.int .i64 ((rd_T31 l0 x9_1).f1)) := (blk_cell BK154.out 1).trans rfl; have hcz82_2 : w81.cell? ⟨gb154, 2, none⟩ = some (.int .i64 ((rd_T31 l0 x9_1).f2)) := (blk_cell BK154.out 2).trans rfl; have hfz82_0 := blk_frozen BK154.out 0; have hfz82_1 := blk_frozen BK154.out 1; have hfz82_2 := blk_frozen BK154.out 2) | ((with_reducible refine gate_builtin (b := .append) (xs := #[.tmp 48, .tmp 51]) rfl ?_); at_builtin; refine Kd.R_append (Kd.int .i64) (w0 := w) w.heap.size rfl (.tmp 48) (.tmp 51) 78 2 (.int .i64 0) 8 rfl Tryz.underlying78 info2 rfl (by decide) (by omega) u7 x7_1 ((rd_T31 l0 x9_1).f2) [.int .i64 ((rd_T31 l0 x9_1).f2)] (fun k_ => some k_ ≠ (v157 : Value).ownBlock) (fun _ => False) rfl rfl ?aP (fun _ hk => hk.elim) ?aF ?aO ?aB ?aS ?aL ?_; (case aP => exact rfl); (case aB => exact (by repeat (first | (with_reducible first | exact HB.out | apply below_alloc | apply pw_below_drewN | apply below_drew1 | refine below_set ?_ GE154.out) | exact HB.out))); (case aF => exact (fun k_ hk => Kd.fresh' (Kd.R_lt (by (with_reducible repeat (first | apply Kd.R_alloc | apply Kd.R_drewN | apply Kd.R_drew)); exact HO158.out)) k_ hk)); (case aO => exact (by (with_reducible repeat (first | apply Kd.R_alloc | apply Kd.R_drewN | apply Kd.R_drew)); exact Kd.R_mono HO_7.out (fun _ hk => hk.2))); (case aS => exact (below_size (by repeat (first | (with_reducible first | exact HB.out | apply below_alloc | apply pw_below_drewN | apply below_drew1 | refine below_set ?_ GE154.out) | exact HB.out)))); (case aL => have := LMc22.out; omega); intro v160 w83 ho hb hg hat; rw [← Ny159.out] at ho; have n0_ := Aside0.mk (Kd.N_afterv (ok := (fun k_ => some k_ ≠ (v157 : Value).ownBlock ∧ k_ ≠ gb154)) (by (with_reducible repeat (first | apply Kd.N_alloc | apply Kd.N_drewN | apply Kd.N_drew)); exact Kd.N_mono HO_8.out (fun _ hk => ⟨⟨hk.2, hk.1.2⟩, hk.1.1⟩)) hg hat); have n1_ := Aside0.mk (blk_grown (g := gb154) (o := .cells #[.string ((rd_T31 l0 x9_1).f0), .int .i64 ((rd_T31 l0 x9_1).f1), .int .i64 ((rd_T31 l0 x9_1).f2)] 31 (0, 0)) (by (with_reducible repeat (first | refine blk_drewN ?_ _ | refine blk_drew ?_ | refine blk_alloc ?_ _)); exact BK154.out) hg (Kd.R_ne HO_7.out BK154.out (by decide))); have n2_ := Aside0.mk (Kd.R_after (ok := (fun _ => True)) (by (with_reducible repeat (first | apply Kd.R_alloc | apply Kd.R_drewN | apply Kd.R_drew)); exact Kd.R_mono HO158.out (fun _ hk => ⟨trivial, hk⟩)) hg hat); have n3_ := Aside0.mk (hb); have n4_ := Aside0.mk (ho); clear HO_8; clear BK154; clear HO158; clear HB; clear HO_7; have HO_8 := n0_; have BK154 := n1_; have HO158 := n2_; have HB := n3_; have HO161 := n4_; clear n0_ n1_ n2_ n3_ n4_; clear ho hb hg hat; have hcz84_0 : w83.cell? ⟨gb154, 0, none⟩ = some (.string ((rd_T31 l0 x9_1).f0)) := (blk_cell BK154.out 0).trans rfl; have hcz84_1 : w83.cell? ⟨gb154, 1, none⟩ = some (.int .i64 ((rd_T31 l0 x9_1).f1)) := (blk_cell BK154.out 1).trans rfl; have hcz84_2 : w83.cell? ⟨gb154, 2, none⟩ = some (.int .i64 ((rd_T31 l0 x9_1).f2)) := (blk_cell BK154.out 2).trans rfl; have hfz84_0 := blk_frozen BK154.out 0; have hfz84_1 := blk_frozen BK154.out 1; have hfz84_2 := blk_frozen BK154.out 2) | ((with_reducible refine gate_dst (N := 55) rfl ?_); refine Kd.R_lit Kd.string _ 9 ?hg (N := 55) ?hd (xs := ([((rd_T31 l0 x9_1).f0), (⟨#[]⟩ : ByteArray), (⟨#[]⟩ : ByteArray)] : List ByteArray)) (inner := [.string ((rd_T31 l0 x9_1).f0), .string (⟨#[]⟩ : ByteArray), .string (⟨#[]⟩ : ByteArray)]) (ok := fun _ => True) (okp := fun _ => True) ?hr ?hp (fun _ hk => hk) trivial (Below.refl _ _) (Nat.le_refl _) (by simp) ?_; (case hd => rfl); (case hg => rfl); (case hr => first | (go_simp; done) | (go_simp; rfl)); (case hp => exact (Reps.one (show Kd.M Kd.string _ _ _ ((rd_T31 l0 x9_1).f0) [.string ((rd_T31 l0 x9_1).f0)] from rfl) (Reps.one (show Kd.M Kd.string _ _ _ (⟨#[]⟩ : ByteArray) [.string (⟨#[]⟩ : ByteArray)] from rfl) (Reps.one (show Kd.M Kd.string _ _ _ (⟨#[]⟩ : ByteArray) [.string (⟨#[]⟩ : ByteArray)] from rfl) (Reps.none _ _))))); intro v163 w85 ho86 hb hg_ hnew_; clear hg_ hnew_; (first | rw [← Ny162.out] at ho86 | (simp only [Int.reduceToNat] at ho86; rw [← Ny162.out] at ho86)); have n0_ := Aside0.mk (Kd.N_elder' (by (with_reducible repeat (first | apply Kd.N_alloc | apply Kd.N_drewN | apply Kd.N_drew)); exact HO_8.out) (Kd.R_base ho86) hb); have n1_ := Aside0.mk (Kd.R_below (by (with_reducible repeat (first | apply Kd.R_alloc | apply Kd.R_drewN | apply Kd.R_drew)); exact HO158.out) hb); have n2_ := Aside0.mk (Kd.R_below (by (with_reducible repeat (first | apply Kd.R_alloc | apply Kd.R_drewN | apply Kd.R_drew)); exact HO161.out) hb); have n3_ := Aside0.mk (Kd.R_lower ho86 (below_size (by repeat (first | (with_reducible first | exact HB.out | apply below_alloc | apply pw_below_drewN | apply below_drew1 | refine below_set ?_ GE154.out) | exact HB.out)))); have n4_ := Aside0.mk (blk_below (g := gb154) (o := .cells #[.string ((rd_T31 l0 x9_1).f0), .int .i64 ((rd_T31 l0 x9_1).f1), .int .i64 ((rd_T31 l0 x9_1).f2)] 31 (0, 0)) (by (with_reducible repeat (first | refine blk_drewN ?_ _ | refine blk_drew ?_ | refine blk_alloc ?_ _)); exact BK154.out) hb); have n5_ := Aside0.mk (below_step (by repeat (first | (with_reducible first | exact HB.out | apply below_alloc | apply pw_below_drewN | apply below_drew1 | refine below_set ?_ GE154.out) | exact HB.out)) hb); clear HO_8; clear HO158; clear HO161; clear BK154; clear HB; have HO_8 := n0_; have HO158 := n1_; have HO161 := n2_; have HO164 := n3_; have BK154 := n4_; have HB := n5_; clear n0_ n1_ n2_ n3_ n4_ n5_; clear hb ho86; have hcz87_0 : w85.cell? ⟨gb154, 0, none⟩ = some (.string ((rd_T31 l0 x9_1).f0)) := (blk_cell BK154.out 0).trans rfl; have hcz87_1 : w85.cell? ⟨gb154, 1, none⟩ = some (.int .i64 ((rd_T31 l0 x9_1).f1)) := (blk_cell BK154.out 1).trans rfl; have hcz87_2 : w85.cell? ⟨gb154, 2, none⟩ = some (.int .i64 ((rd_T31 l0 x9_1).f2)) := (blk_cell BK154.out 2).trans rfl; have hfz87_0 := blk_frozen BK154.out 0; have hfz87_1 := blk_frozen BK154.out 1; have hfz87_2 := blk_frozen BK154.out 2; obtain ⟨Ao89, co89, eo89⟩ := Kd.R_slice HO164.out; subst eo89) | ((with_reducible refine gate_builtin (b := .append) (xs := #[.tmp 74, .tmp 76]) rfl ?_); at_builtin; refine Kd.N_append (Kd.slice 9 Kd.string) (w0 := w) w.heap.size rfl (.tmp 74) (.tmp 76) 80 90 (.slice none 0 0) 24 rfl Tryz.underlying80 info90 rfl (by decide) (by omega) u8 x8_1 y162 [.slice Ao89 y162.length co89] (fun k_ => some k_ ≠ (v157 : Value).ownBlock ∧ some k_ ≠ (v160 : Value).ownBlock ∧ k_ ≠ gb154) (fun k_ => ((fun k_ => some k_ ≠ (v157 : Value).ownBlock ∧ some k_ ≠ (v160 : Value).ownBlock ∧ k_ ≠ gb154)) k_ ∧ some k_ ≠ (u8 : Value).ownBlock) rfl rfl ?aP (fun _ hk => hk) ?aF ?aO ?aB ?aS ?aL ?_; (case aP => first | exact (Kd.FK_slice_mk (Kd.R_reads' (Kd.R_mono (ok' := (fun k_ => ((fun k_ => some k_ ≠ (v157 : Value).ownBlock ∧ some k_ ≠ (v160 : Value).ownBlock ∧ k_ ≠ gb154)) k_ ∧ some k_ ≠ (u8 : Value).ownBlock)) (Kd.R_types (Kd.R_apart' (Kd.R_apart' (Kd.R_apart' (HO164.out) (Kd.R_typed HO158.out) (by decide)) (Kd.R_typed HO161.out) (by decide)) (Kd.N_typed HO_8.out) (by decide)) BK154.out (by decide)) (fun k_ hk => ⟨⟨hk.1.1.1.2, ⟨hk.1.1.2, hk.2⟩⟩, hk.1.2⟩))).2.1 (Kd.R_F (Kd.R_mono (ok' := (fun k_ => ((fun k_ => some k_ ≠ (v157 : Value).ownBlock ∧ some k_ ≠ (v160 : Value).ownBlock ∧ k_ ≠ gb154)) k_ ∧ some k_ ≠ (u8 : Value).ownBlock)) (Kd.R_types (Kd.R_apart' (Kd.R_apart' (Kd.R_apart' (HO164.out) (Kd.R_typed HO158.out) (by decide)) (Kd.R_typed HO161.out) (by decide)) (Kd.N_typed HO_8.out) (by decide)) BK154.out (by decide)) (fun k_ hk => ⟨⟨hk.1.1.1.2, ⟨hk.1.1.2, hk.2⟩⟩, hk.1.2⟩)))) | exact fk_row6 (Kd.R_mono (ok' := (fun k_ => ((fun k_ => some k_ ≠ (v157 : Value).ownBlock ∧ some k_ ≠ (v160 : Value).ownBlock ∧ k_ ≠ gb154)) k_ ∧ some k_ ≠ (u8 : Value).ownBlock)) (Kd.R_types (Kd.R_apart' (Kd.R_apart' (Kd.R_apart' (HO164.out) (Kd.R_typed HO158.out) (by decide)) (Kd.R_typed HO161.out) (by decide)) (Kd.N_typed HO_8.out) (by decide)) BK154.out (by decide)) (fun k_ hk => ⟨⟨hk.1.1.1.2, ⟨hk.1.1.2, hk.2⟩⟩, hk.1.2⟩))); (case aB => exact (by repeat (first | (with_reducible first | exact HB.out | apply below_alloc | apply pw_below_drewN | apply below_drew1 | refine below_set ?_ GE154.out) | exact HB.out))); (case aF => exact (fun k_ hk => ⟨Kd.fresh' (Kd.R_lt (by (with_reducible repeat (first | apply Kd.R_alloc | apply Kd.R_drewN | apply Kd.R_drew)); exact HO158.out)) k_ hk, Kd.fresh' (Kd.R_lt (by (with_reducible repeat (first | apply Kd.R_alloc | apply Kd.R_drewN | apply Kd.R_drew)); exact HO161.out)) k_ hk, Kd.freshB (g := gb154) (o := .cells #[.string ((rd_T31 l0 x9_1).f0), .int .i64 ((rd_T31 l0 x9_1).f1), .int .i64 ((rd_T31 l0 x9_1).f2)] 31 (0, 0)) (by (with_reducible repeat (first | refine blk_drewN ?_ _ | refine blk_drew ?_ | refine blk_alloc ?_ _)); exact BK154.out) k_ hk⟩)); (case aO => exact (by (with_reducible repeat (first | apply Kd.N_alloc | apply Kd.N_drewN | apply Kd.N_drew)); exact Kd.N_mono HO_8.out (fun _ hk => ⟨hk.1.1.1, ⟨hk.1.2, hk.1.1.2⟩⟩))); (case aS => exact (below_size (by repeat (first | (with_reducible first | exact HB.out | apply below_alloc | apply pw_below_drewN | apply below_drew1 | refine below_set ?_ GE154.out) | exact HB.out)))); (case aL => have := LMc79.out; omega); intro v181 w88 ho hb hg hat; rw [← Ny180.out] at ho; have n0_ := Aside0.mk (blk_grown (g := gb154) (o := .cells #[.string ((rd_T31 l0 x9_1).f0), .int .i64 ((rd_T31 l0 x9_1).f1), .int .i64 ((rd_T31 l0 x9_1).f2)] 31 (0, 0)) (by (with_reducible repeat (first | refine blk_drewN ?_ _ | refine blk_drew ?_ | refine blk_alloc ?_ _)); exact BK154.out) hg (Kd.N_ne HO_8.out BK154.out (by decide))); have n1_ := Aside0.mk (Kd.R_over' (by (with_reducible repeat (first | apply Kd.R_alloc | apply Kd.R_drewN | apply Kd.R_drew)); exact HO158.out) (Kd.N_typed (by (with_reducible repeat (first | apply Kd.N_alloc | apply Kd.N_drewN | apply Kd.N_drew)); exact HO_8.out)) (by decide) hg); have n2_ := Aside0.mk (Kd.R_over' (by (with_reducible repeat (first | apply Kd.R_alloc | apply Kd.R_drewN | apply Kd.R_drew)); exact HO161.out) (Kd.N_typed (by (with_reducible repeat (first | apply Kd.N_alloc | apply Kd.N_drewN | apply Kd.N_drew)); exact HO_8.out)) (by decide) hg); have n3_ := Aside0.mk (hb); have n4_ := Aside0.mk (ho); clear BK154; clear HO158; clear HO161; clear HB; clear HO_8; clear HO164; have BK154 := n0_; have HO158 := n1_; have HO161 := n2_; have HB := n3_; have HO182 := n4_; clear n0_ n1_ n2_ n3_ n4_; clear ho hb hg hat))
                              go_roundg kj13
                              case measure => have := HK1.out; have := HJ13.out; omega
                              case rel => exact ⟨(y156), (y159), (y180), (wrap64 (x9_1 + 1)), (by first | rfl | (simp; done) | (simp [*]; done)), H', ⟨by have := HK1.out; have := HJ13.out; omega⟩, ⟨by (with_reducible repeat (first | apply Kd.R_alloc | apply Kd.R_drewN | apply Kd.R_drew)); exact Kd.R_mono HO158.out (fun _ hk => hk.2)⟩, ⟨by (with_reducible repeat (first | apply Kd.R_alloc | apply Kd.R_drewN | apply Kd.R_drew)); exact HO161.out⟩, ⟨by (with_reducible repeat (first | apply Kd.N_alloc | apply Kd.N_drewN | apply Kd.N_drew)); exact Kd.N_mono HO182.out (fun _ hk => ⟨hk.1, hk.2.1⟩)⟩, ⟨by repeat (first | (with_reducible first | exact HB.out | apply below_alloc | apply pw_below_drewN | apply below_drew1 | refine below_set ?_ GE154.out) | exact HB.out)⟩⟩
                            · rw [if_neg c79] at H
                              exact absurd H (by simp)
                      · rw [if_neg c22] at H
                        exact absurd H (by simp)
                    · rw [if_neg c21] at H
                      exact absurd H (by simp)
            · replace c13 := Bool.eq_false_iff.mpr c13
              subst c13
              have H1 : (some ((⟨#[]⟩ : ByteArray), 60)) = some (r1, r2) := by rw [if_neg (show ¬ (false = true) by decide)] at H; exact H
              clear H
              have H := H1
              clear H1
              simp only [Option.some.injEq, Prod.mk.injEq] at H
              obtain ⟨rfl, rfl⟩ := H
              have p153 : 0 ≤ (x9_1 : Int) := of_decide_eq_true (by first | (with_reducible assumption) | assumption)
              have q153 : x9_1 < (l0.length : Int) := of_decide_eq_true (by first | (with_reducible assumption) | assumption)
              obtain ⟨ad153, e153, hx153_0, hx153_1, hx153_2⟩ := at_T31 HR0.out x9_1 p153 q153
              cases e153
              replace hx153_0 := (HB.out.cell (World.block_lt_of_cell? w _ hx153_0)).trans hx153_0
              replace hx153_1 := (HB.out.cell (World.block_lt_of_cell? w _ hx153_1)).trans hx153_1
              replace hx153_2 := (HB.out.cell (World.block_lt_of_cell? w _ hx153_2)).trans hx153_2
              replace p153 := eq_true p153
              replace q153 := eq_true q153
              go_wp2_with (first | ((with_reducible refine gate_dst (N := 10) rfl ?_); refine box_event ?hg (N := 10) ?hd (cs := #[.string (⟨#[]⟩ : ByteArray), .int .i64 0, .int .i64 0]) (t := 31) ?hr ?_; (case hd => rfl); (case hg => rfl); (case hr => first | (go_simp; done) | (go_simp; rfl)); intro gb154 hg w90 hbox hb; have n0_ := Aside0.mk (Kd.R_below (by (with_reducible repeat (first | apply Kd.R_alloc | apply Kd.R_drewN | apply Kd.R_drew)); exact HO_6.out) hb); have n1_ := Aside0.mk (Kd.R_below (by (with_reducible repeat (first | apply Kd.R_alloc | apply Kd.R_drewN | apply Kd.R_drew)); exact HO_7.out) hb); have n2_ := Aside0.mk (Kd.N_below (Kd.N_elderB (by (with_reducible repeat (first | apply Kd.N_alloc | apply Kd.N_drewN | apply Kd.N_drew)); exact HO_8.out) gb154 (Nat.le_of_eq hg.symm)) hb); have n3_ := Aside0.mk (below_step (by repeat (first | (with_reducible first | exact HB.out | apply below_alloc | apply pw_below_drewN | apply below_drew1) | exact HB.out)) hb); have n4_ := Aside0.mk (hbox); have n5_ := Aside0.mk ((by rw [hg]; exact (below_size (by repeat (first | (with_reducible first | exact HB.out | apply below_alloc | apply pw_below_drewN | apply below_drew1) | exact HB.out))) : w.heap.size ≤ gb154)); have n6_ := Aside0.mk ((by rw [hg]; exact (below_size (by repeat (first | (with_reducible first | exact HB.out | apply below_alloc | apply pw_below_drewN | apply below_drew1) | exact HB.out))) : w.heap.size ≤ gb154)); clear HO_6; clear HO_7; clear HO_8; clear HB; have HO_6 := n0_; have HO_7 := n1_; have HO_8 := n2_; have HB := n3_; have BK154 := n4_; have GW154 := n5_; have GE154 := n6_; clear n0_ n1_ n2_ n3_ n4_ n5_ n6_; clear hb hbox hg; have hcz91_0 : w90.cell? ⟨gb154, 0, none⟩ = some (.string (⟨#[]⟩ : ByteArray)) := (blk_cell BK154.out 0).trans rfl; have hcz91_1 : w90.cell? ⟨gb154, 1, none⟩ = some (.int .i64 0) := (blk_cell BK154.out 1).trans rfl; have hcz91_2 : w90.cell? ⟨gb154, 2, none⟩ = some (.int .i64 0) := (blk_cell BK154.out 2).trans rfl; have hfz91_0 := blk_frozen BK154.out 0; have hfz91_1 := blk_frozen BK154.out 1; have hfz91_2 := blk_frozen BK154.out 2) | ((with_reducible refine gate_callee (f := 49) rfl ?_); refine goesL_ (some 33) rfl rfl Tryz.func49 (by kernel_rfl) rfl #[.string ((rd_T31 l0 x9_1).f0)] rfl (by (try simp only [List.map_toArray, List.map_cons, List.map_nil]); first | done | rfl | (simp only [List.length_drop, List.length_take]; rfl)) ?_; (with_reducible refine (daybookref05_Name.calls k1 ((rd_T31 l0 x9_1).f0) false _ A12.out).mono ?_); rintro e w' ⟨rfl, ⟨nd, rfl⟩⟩; refine ⟨_, rfl, ?_⟩))
              go_ret2
              exact ⟨by first | rfl | (simp [errW_none, errW_some] <;> rfl) | (simp [*, errW_none, errW_some] <;> rfl), by repeat (first | (with_reducible first | exact HB.out | apply below_alloc | apply pw_below_drewN | apply below_drew1 | refine below_set ?_ GE154.out) | exact HB.out)⟩
          · rw [if_neg c11] at H
            exact absurd H (by simp)
        · rw [if_neg c10] at H
          have c10b0 : decide (x9_1 < (l0.length : Int)) = false := decide_eq_false c10
          clear c10
          replace H := Option.bind_eq_some_iff.mp H
          obtain ⟨⟨t183, t184⟩, A920, H⟩ := H
          replace H : ((L_RefSum.f x7_1).bind fun bt185 => (if t184 = 0 then (daybookref17_Trial.j2 k1 a1 x8_1 t183 bt185.1 (bt185.2 != 0)) else (daybookref17_Trial.j2 k1 a1 x8_1 t183 bt185.1 true))) = some (r1, r2) := H
          have A92 := Aside0.mk A920
          clear A920
          replace H := Option.bind_eq_some_iff.mp H
          obtain ⟨⟨t185, t186⟩, A930, H⟩ := H
          replace H : (if t184 = 0 then (daybookref17_Trial.j2 k1 a1 x8_1 t183 t185 (t186 != 0)) else (daybookref17_Trial.j2 k1 a1 x8_1 t183 t185 true)) = some (r1, r2) := H
          have A93 := Aside0.mk A930
          clear A930
          have HC94 := Aside0.mk H
          clear H
          obtain ⟨Ao95, co95, eo95⟩ := Kd.R_slice HO_6.out
          subst eo95
          go_upto_region 23 with (first | ((with_reducible refine gate_callee (f := 51) rfl ?_); refine goesL_ (some 80) rfl rfl Tryz.func51 (by kernel_rfl) rfl #[.slice Ao95 x6_1.length co95] rfl (by (try simp only [List.map_toArray, List.map_cons, List.map_nil]); first | done | rfl | (simp only [List.length_drop, List.length_take]; rfl)) ?_; (with_reducible refine (L_RefSum.calls _ _ x6_1 t183 t184 _ ?side1 ?side2 A92.out).mono ?_); (case side1 => repeat (first | exact (Kd.R_reads' HO_6.out).2.2 | (with_reducible refine Kd.C_alloc ?_ _) | (with_reducible refine Kd.C_drewN ?_ _) | (with_reducible refine Kd.C_drew ?_))); (case side2 => exact (Kd.R_reads' HO_6.out).2.1); rintro e w96 ⟨rfl, hb⟩; refine ⟨_, rfl, ?_⟩; have n0_ := Aside0.mk (Kd.R_below (by (with_reducible repeat (first | apply Kd.R_alloc | apply Kd.R_drewN | apply Kd.R_drew)); exact HO_6.out) hb); have n1_ := Aside0.mk (Kd.R_below (by (with_reducible repeat (first | apply Kd.R_alloc | apply Kd.R_drewN | apply Kd.R_drew)); exact HO_7.out) hb); have n2_ := Aside0.mk (Kd.N_below (by (with_reducible repeat (first | apply Kd.N_alloc | apply Kd.N_drewN | apply Kd.N_drew)); exact HO_8.out) hb); have n3_ := Aside0.mk (below_step (by repeat (first | (with_reducible first | exact HB.out | apply below_alloc | apply pw_below_drewN | apply below_drew1) | exact HB.out)) hb); clear HO_6; clear HO_7; clear HO_8; clear HB; have HO_6 := n0_; have HO_7 := n1_; have HO_8 := n2_; have HB := n3_; clear n0_ n1_ n2_ n3_; (try clear hb); (try clear hb2); (try clear hk); (try clear hi); obtain ⟨Ao97, co97, eo97⟩ := Kd.R_slice HO_7.out; subst eo97) | ((with_reducible refine gate_callee (f := 51) rfl ?_); refine goesL_ (some 85) rfl rfl Tryz.func51 (by kernel_rfl) rfl #[.slice Ao97 x7_1.length co97] rfl (by (try simp only [List.map_toArray, List.map_cons, List.map_nil]); first | done | rfl | (simp only [List.length_drop, List.length_take]; rfl)) ?_; (with_reducible refine (L_RefSum.calls _ _ x7_1 t185 t186 _ ?side1 ?side2 A93.out).mono ?_); (case side1 => repeat (first | exact (Kd.R_reads' HO_7.out).2.2 | (with_reducible refine Kd.C_alloc ?_ _) | (with_reducible refine Kd.C_drewN ?_ _) | (with_reducible refine Kd.C_drew ?_))); (case side2 => exact (Kd.R_reads' HO_7.out).2.1); rintro e w98 ⟨rfl, hb⟩; refine ⟨_, rfl, ?_⟩; have n0_ := Aside0.mk (Kd.R_below (by (with_reducible repeat (first | apply Kd.R_alloc | apply Kd.R_drewN | apply Kd.R_drew)); exact HO_6.out) hb); have n1_ := Aside0.mk (Kd.R_below (by (with_reducible repeat (first | apply Kd.R_alloc | apply Kd.R_drewN | apply Kd.R_drew)); exact HO_7.out) hb); have n2_ := Aside0.mk (Kd.N_below (by (with_reducible repeat (first | apply Kd.N_alloc | apply Kd.N_drewN | apply Kd.N_drew)); exact HO_8.out) hb); have n3_ := Aside0.mk (below_step (by repeat (first | (with_reducible first | exact HB.out | apply below_alloc | apply pw_below_drewN | apply below_drew1) | exact HB.out)) hb); clear HO_6; clear HO_7; clear HO_8; clear HB; have HO_6 := n0_; have HO_7 := n1_; have HO_8 := n2_; have HB := n3_; clear n0_ n1_ n2_ n3_; (try clear hb); (try clear hb2); (try clear hk); (try clear hi)))
          (try simp only [Act.put, List.setIfInBounds_toArray, List.set_cons_zero, List.set_cons_succ])
          go_cut [93] (fun v93 wc => ∃ (kq : Nat) (x93_93 : Bool), v93 = .bool x93_93 ∧ Aside0 (daybookref17_Trial.j2 kq a1 x8_1 t183 t185 x93_93 = some (r1, r2)) ∧ Aside0 (kq ≤ k1) ∧ Aside0 (Kd.N (Kd.slice 9 Kd.string) 90 wc w.heap.size (fun _ => True) u8 x8_1) ∧ Aside0 (Below w.heap.size w wc))
          case first =>
            have H := HC94.out
            clear HC94
            by_cases c99 : t184 = 0
            · rw [if_pos c99] at H
              have c99b0 : (t184 == 0) = true := beq_iff_eq.mpr c99
              have c99b1 : (t184 != 0) = false := bne_eq_false_iff_eq.mpr c99
              clear c99
              (first | rw [c99b0] | (simp only [i64_w, i32_w]; rw [c99b0]) | skip)
              have H' := Aside0.mk H
              clear H
              go_wp2
              go_meet
              case rel => exact ⟨_, ((t186 != 0)), (by first | rfl | (simp; done) | (simp [*]; done)), H', ⟨by have := HK1.out; first | omega | exact Nat.le_refl _⟩, ⟨by (with_reducible repeat (first | apply Kd.N_alloc | apply Kd.N_drewN | apply Kd.N_drew)); exact Kd.N_mono HO_8.out (fun _ hk => trivial)⟩, ⟨by repeat (first | (with_reducible first | exact HB.out | apply below_alloc | apply pw_below_drewN | apply below_drew1) | exact HB.out)⟩⟩
            · rw [if_neg c99] at H
              have c99b0 : (t184 == 0) = false := beq_eq_false_iff_ne.mpr c99
              have c99b1 : (t184 != 0) = true := bne_iff_ne.mpr c99
              (first | rw [c99b0] | (simp only [i64_w, i32_w]; rw [c99b0]) | skip)
              have H' := Aside0.mk H
              clear H
              go_wp2
              go_meet
              case rel => exact ⟨_, (true), (by first | rfl | (simp; done) | (simp [*]; done)), H', ⟨by have := HK1.out; first | omega | exact Nat.le_refl _⟩, ⟨by (with_reducible repeat (first | apply Kd.N_alloc | apply Kd.N_drewN | apply Kd.N_drew)); exact Kd.N_mono HO_8.out (fun _ hk => trivial)⟩, ⟨by repeat (first | (with_reducible first | exact HB.out | apply below_alloc | apply pw_below_drewN | apply below_drew1) | exact HB.out)⟩⟩
          case rest =>
            clear HC94
            try clear c1
            try clear p1
            try clear q1
            try clear hx1
            try clear c2
            try clear p2
            try clear q2
            try clear hx2
            try clear qi2
            try clear hf2
            try clear c3
            try clear p3
            try clear q3
            try clear hx3
            try clear qi3
            try clear hf3
            try clear c4
            try clear c5
            try clear c6
            try clear p6
            try clear q6
            try clear hx6
            try clear qi6
            try clear hf6
            try clear c7
            try clear c9
            try clear c10
            try clear c10b0
            try clear c11
            try clear c11b0
            try clear c13
            try clear p15
            try clear q15
            try clear hx15
            try clear c17
            try clear c17b0
            try clear c20
            try clear c21
            try clear c22
            try clear c23
            try clear c23b0
            try clear c25
            try clear c25b0
            try clear c25b1
            try clear p26
            try clear q26
            try clear hx26
            try clear qi26
            try clear hf26
            try clear c27
            try clear c27b0
            try clear c29
            try clear c29b0
            try clear c29b1
            try clear p30
            try clear q30
            try clear hx30
            try clear qi30
            try clear hf30
            try clear c31
            try clear c48
            try clear c49
            try clear c50
            try clear c51
            try clear c62
            try clear c62b0
            try clear c64
            try clear c64b0
            try clear c64b1
            try clear p64
            try clear p65
            try clear q65
            try clear hx65
            try clear qi65
            try clear hf65
            try clear c66
            try clear c79
            try clear c99
            try clear c99b0
            try clear c99b1
            try clear hcz16_0
            try clear hcz16_1
            try clear hcz16_2
            try clear hcz18_0
            try clear hcz18_1
            try clear hcz18_2
            try clear hcz19_0
            try clear hcz19_1
            try clear hcz19_2
            try clear hcz32_0
            try clear hcz32_1
            try clear hcz32_2
            try clear hcz34_0
            try clear hcz34_1
            try clear hcz34_2
            try clear hcz36_0
            try clear hcz36_1
            try clear hcz36_2
            try clear hcz39_0
            try clear hcz39_1
            try clear hcz39_2
            try clear hcz43_0
            try clear hcz43_1
            try clear hcz43_2
            try clear hcz49_0
            try clear hcz49_1
            try clear hcz49_2
            try clear hcz51_0
            try clear hcz51_1
            try clear hcz51_2
            try clear hcz53_0
            try clear hcz53_1
            try clear hcz53_2
            try clear hcz56_0
            try clear hcz56_1
            try clear hcz56_2
            try clear hcz60_0
            try clear hcz60_1
            try clear hcz60_2
            try clear hcz67_0
            try clear hcz67_1
            try clear hcz67_2
            try clear hcz69_0
            try clear hcz69_1
            try clear hcz69_2
            try clear hcz71_0
            try clear hcz71_1
            try clear hcz71_2
            try clear hcz74_0
            try clear hcz74_1
            try clear hcz74_2
            try clear hcz80_0
            try clear hcz80_1
            try clear hcz80_2
            try clear hcz82_0
            try clear hcz82_1
            try clear hcz82_2
            try clear hcz84_0
            try clear hcz84_1
            try clear hcz84_2
            try clear hcz87_0
            try clear hcz87_1
            try clear hcz87_2
            try clear hcz91_0
            try clear hcz91_1
            try clear hcz91_2
            try clear hfz16_0
            try clear hfz16_1
            try clear hfz16_2
            try clear hfz18_0
            try clear hfz18_1
            try clear hfz18_2
            try clear hfz19_0
            try clear hfz19_1
            try clear hfz19_2
            try clear hfz32_0
            try clear hfz32_1
            try clear hfz32_2
            try clear hfz34_0
            try clear hfz34_1
            try clear hfz34_2
            try clear hfz36_0
            try clear hfz36_1
            try clear hfz36_2
            try clear hfz39_0
            try clear hfz39_1
            try clear hfz39_2
            try clear hfz43_0
            try clear hfz43_1
            try clear hfz43_2
            try clear hfz49_0
            try clear hfz49_1
            try clear hfz49_2
            try clear hfz51_0
            try clear hfz51_1
            try clear hfz51_2
            try clear hfz53_0
            try clear hfz53_1
            try clear hfz53_2
            try clear hfz56_0
            try clear hfz56_1
            try clear hfz56_2
            try clear hfz60_0
            try clear hfz60_1
            try clear hfz60_2
            try clear hfz67_0
            try clear hfz67_1
            try clear hfz67_2
            try clear hfz69_0
            try clear hfz69_1
            try clear hfz69_2
            try clear hfz71_0
            try clear hfz71_1
            try clear hfz71_2
            try clear hfz74_0
            try clear hfz74_1
            try clear hfz74_2
            try clear hfz80_0
            try clear hfz80_1
            try clear hfz80_2
            try clear hfz82_0
            try clear hfz82_1
            try clear hfz82_2
            try clear hfz84_0
            try clear hfz84_1
            try clear hfz84_2
            try clear hfz87_0
            try clear hfz87_1
            try clear hfz87_2
            try clear hfz91_0
            try clear hfz91_1
            try clear hfz91_2
            try clear hx153_0
            try clear hx153_1
            try clear hx153_2
            try clear hx26_0
            try clear hx30_0
            try clear hx65_0
            try clear p1
            try clear p15
            try clear p153
            try clear p2
            try clear p26
            try clear p30
            try clear p65
            try clear q1
            try clear q15
            try clear q153
            try clear q26
            try clear q30
            try clear q65
            obtain ⟨kq, x93_93, rfl, HA, HJ93, HO_8, HB⟩ := hcut
            cases kq with
            | zero => exact absurd HA.out (by simp [daybookref17_Trial.j2])
            | succ kj93 =>
              have H := HA.out
              clear HA
              simp only [daybookref17_Trial.j2] at H
              by_cases c100 : x93_93 = true
              · subst c100
                have H1 : (some ((⟨#[]⟩ : ByteArray), 11)) = some (r1, r2) := by rw [if_pos rfl] at H; exact H
                clear H
                have H := H1
                clear H1
                simp only [Option.some.injEq, Prod.mk.injEq] at H
                obtain ⟨rfl, rfl⟩ := H
                go_wp2
                go_ret2
                exact ⟨by first | rfl | (simp [errW_none, errW_some] <;> rfl) | (simp [*, errW_none, errW_some] <;> rfl), by repeat (first | (with_reducible first | exact HB.out | apply below_alloc | apply pw_below_drewN | apply below_drew1) | exact HB.out)⟩
              · replace c100 := Bool.eq_false_iff.mpr c100
                subst c100
                have H1 : ((daybookref17_money.f kj93 t183 a1).bind fun t187 => ((daybookref17_money.f kj93 t185 a1).bind fun t188 => (if x8_1.length < 5864062014805 then ((daybookref17_Grid.f kj93 (x8_1 ++ [(([(⟨#[83, 117, 109]⟩ : ByteArray), t187, t188] : List ByteArray))]) (([false, true, true] : List Bool))).bind fun t198 => (some (t198, 0))) else (none)))) = some (r1, r2) := by rw [if_neg (show ¬ (false = true) by decide)] at H; exact H
                clear H
                have H := H1
                clear H1
                replace H := Option.bind_eq_some_iff.mp H
                obtain ⟨t187, A1010, H⟩ := H
                replace H : ((daybookref17_money.f kj93 t185 a1).bind fun t188 => (if x8_1.length < 5864062014805 then ((daybookref17_Grid.f kj93 (x8_1 ++ [(([(⟨#[83, 117, 109]⟩ : ByteArray), t187, t188] : List ByteArray))]) (([false, true, true] : List Bool))).bind fun t198 => (some (t198, 0))) else (none))) = some (r1, r2) := H
                have A101 := Aside0.mk A1010
                clear A1010
                replace H := Option.bind_eq_some_iff.mp H
                obtain ⟨t188, A1020, H⟩ := H
                replace H : (if x8_1.length < 5864062014805 then ((daybookref17_Grid.f kj93 (x8_1 ++ [(([(⟨#[83, 117, 109]⟩ : ByteArray), t187, t188] : List ByteArray))]) (([false, true, true] : List Bool))).bind fun t198 => (some (t198, 0))) else (none)) = some (r1, r2) := H
                have A102 := Aside0.mk A1020
                clear A1020
                obtain ⟨y189, hy189⟩ : ∃ y_ : List ByteArray, y_ = (([(⟨#[83, 117, 109]⟩ : ByteArray), t187, t188] : List ByteArray)) := ⟨_, rfl⟩
                replace H : (if x8_1.length < 5864062014805 then ((daybookref17_Grid.f kj93 (x8_1 ++ [y189]) (([false, true, true] : List Bool))).bind fun t198 => (some (t198, 0))) else (none)) = some (r1, r2) := by first | (rw [hy189]; with_reducible exact H) | (have H2_ := (Option.bind_some _ _).symm.trans H; rw [hy189]; with_reducible exact H2_) | (have H2_ := (Option.bind_some _ _).symm.trans H; with_reducible exact H2_) | with_reducible exact H | (rw [hy189]; exact H) | exact H
                have Ny189 := Aside0.mk hy189
                clear hy189
                by_cases c103 : x8_1.length < 5864062014805
                · rw [if_pos c103] at H
                  have LMc103 := Aside0.mk c103
                  clear c103
                  obtain ⟨y192, hy192⟩ : ∃ y_ : List (List ByteArray), y_ = (x8_1 ++ [y189]) := ⟨_, rfl⟩
                  replace H : ((daybookref17_Grid.f kj93 y192 (([false, true, true] : List Bool))).bind fun t198 => (some (t198, 0))) = some (r1, r2) := by first | (rw [hy192]; with_reducible exact H) | (have H2_ := (Option.bind_some _ _).symm.trans H; rw [hy192]; with_reducible exact H2_) | (have H2_ := (Option.bind_some _ _).symm.trans H; with_reducible exact H2_) | with_reducible exact H | (rw [hy192]; exact H) | exact H
                  have Ny192 := Aside0.mk hy192
                  clear hy192
                  obtain ⟨y195, hy195⟩ : ∃ y_ : List Bool, y_ = (([false, true, true] : List Bool)) := ⟨_, rfl⟩
                  replace H : ((daybookref17_Grid.f kj93 y192 y195).bind fun t198 => (some (t198, 0))) = some (r1, r2) := by first | (rw [hy195]; with_reducible exact H) | (have H2_ := (Option.bind_some _ _).symm.trans H; rw [hy195]; with_reducible exact H2_) | (have H2_ := (Option.bind_some _ _).symm.trans H; with_reducible exact H2_) | with_reducible exact H | (rw [hy195]; exact H) | exact H
                  have Ny195 := Aside0.mk hy195
                  clear hy195
                  replace H := Option.bind_eq_some_iff.mp H
                  obtain ⟨t198, A1040, H⟩ := H
                  replace H : (some (t198, 0)) = some (r1, r2) := H
                  have A104 := Aside0.mk A1040
                  clear A1040
                  simp only [Option.some.injEq, Prod.mk.injEq] at H
                  obtain ⟨rfl, rfl⟩ := H
                  go_wp2_with (first | ((with_reducible refine gate_callee (f := 50) rfl ?_); refine goesL_ (some 97) rfl rfl Tryz.func50 (by kernel_rfl) rfl #[.int .i64 t183, .int .i64 a1] rfl (by (try simp only [List.map_toArray, List.map_cons, List.map_nil]); first | done | rfl | (simp only [List.length_drop, List.length_take]; rfl)) ?_; (with_reducible refine (daybookref17_money.calls kj93 t183 a1 t187 _ A101.out).mono ?_); rintro e w105 ⟨rfl, hb⟩; refine ⟨_, rfl, ?_⟩; have n0_ := Aside0.mk (Kd.N_below (by (with_reducible repeat (first | apply Kd.N_alloc | apply Kd.N_drewN | apply Kd.N_drew)); exact HO_8.out) hb); have n1_ := Aside0.mk (below_step (by repeat (first | (with_reducible first | exact HB.out | apply below_alloc | apply pw_below_drewN | apply below_drew1) | exact HB.out)) hb); clear HO_8; clear HB; have HO_8 := n0_; have HB := n1_; clear n0_ n1_; (try clear hb); (try clear hb2); (try clear hk); (try clear hi)) | ((with_reducible refine gate_callee (f := 50) rfl ?_); refine goesL_ (some 100) rfl rfl Tryz.func50 (by kernel_rfl) rfl #[.int .i64 t185, .int .i64 a1] rfl (by (try simp only [List.map_toArray, List.map_cons, List.map_nil]); first | done | rfl | (simp only [List.length_drop, List.length_take]; rfl)) ?_; (with_reducible refine (daybookref17_money.calls kj93 t185 a1 t188 _ A102.out).mono ?_); rintro e w106 ⟨rfl, hb⟩; refine ⟨_, rfl, ?_⟩; have n0_ := Aside0.mk (Kd.N_below (by (with_reducible repeat (first | apply Kd.N_alloc | apply Kd.N_drewN | apply Kd.N_drew)); exact HO_8.out) hb); have n1_ := Aside0.mk (below_step (by repeat (first | (with_reducible first | exact HB.out | apply below_alloc | apply pw_below_drewN | apply below_drew1) | exact HB.out)) hb); clear HO_8; clear HB; have HO_8 := n0_; have HB := n1_; clear n0_ n1_; (try clear hb); (try clear hb2); (try clear hk); (try clear hi)) | ((with_reducible refine gate_dst (N := 101) rfl ?_); refine Kd.R_lit Kd.string _ 9 ?hg (N := 101) ?hd (xs := ([(⟨#[83, 117, 109]⟩ : ByteArray), t187, t188] : List ByteArray)) (inner := [.string (⟨#[83, 117, 109]⟩ : ByteArray), .string t187, .string t188]) (ok := fun _ => True) (okp := fun _ => True) ?hr ?hp (fun _ hk => hk) trivial (Below.refl _ _) (Nat.le_refl _) (by simp) ?_; (case hd => rfl); (case hg => rfl); (case hr => first | (go_simp; done) | (go_simp; rfl)); (case hp => exact (Reps.one (show Kd.M Kd.string _ _ _ (⟨#[83, 117, 109]⟩ : ByteArray) [.string (⟨#[83, 117, 109]⟩ : ByteArray)] from rfl) (Reps.one (show Kd.M Kd.string _ _ _ t187 [.string t187] from rfl) (Reps.one (show Kd.M Kd.string _ _ _ t188 [.string t188] from rfl) (Reps.none _ _))))); intro v190 w107 ho108 hb hg_ hnew_; clear hg_ hnew_; (first | rw [← Ny189.out] at ho108 | (simp only [Int.reduceToNat] at ho108; rw [← Ny189.out] at ho108)); have n0_ := Aside0.mk (Kd.N_elder' (by (with_reducible repeat (first | apply Kd.N_alloc | apply Kd.N_drewN | apply Kd.N_drew)); exact HO_8.out) (Kd.R_base ho108) hb); have n1_ := Aside0.mk (Kd.R_lower ho108 (below_size (by repeat (first | (with_reducible first | exact HB.out | apply below_alloc | apply pw_below_drewN | apply below_drew1) | exact HB.out)))); have n2_ := Aside0.mk (below_step (by repeat (first | (with_reducible first | exact HB.out | apply below_alloc | apply pw_below_drewN | apply below_drew1) | exact HB.out)) hb); clear HO_8; clear HB; have HO_8 := n0_; have HO191 := n1_; have HB := n2_; clear n0_ n1_ n2_; clear hb ho108; obtain ⟨Ao110, co110, eo110⟩ := Kd.R_slice HO191.out; subst eo110) | ((with_reducible refine gate_builtin (b := .append) (xs := #[.tmp 94, .tmp 102]) rfl ?_); at_builtin; refine Kd.N_append (Kd.slice 9 Kd.string) (w0 := w) w.heap.size rfl (.tmp 94) (.tmp 102) 80 90 (.slice none 0 0) 24 rfl Tryz.underlying80 info90 rfl (by decide) (by omega) u8 x8_1 y189 [.slice Ao110 y189.length co110] (fun _ => True) (fun k_ => ((fun _ => True)) k_ ∧ some k_ ≠ (u8 : Value).ownBlock) rfl rfl ?aP (fun _ hk => hk) ?aF ?aO ?aB ?aS ?aL ?_; (case aP => first | exact (Kd.FK_slice_mk (Kd.R_reads' (Kd.R_mono (ok' := (fun k_ => ((fun _ => True)) k_ ∧ some k_ ≠ (u8 : Value).ownBlock)) (Kd.R_apart' (HO191.out) (Kd.N_typed HO_8.out) (by decide)) (fun k_ hk => ⟨trivial, hk.2⟩))).2.1 (Kd.R_F (Kd.R_mono (ok' := (fun k_ => ((fun _ => True)) k_ ∧ some k_ ≠ (u8 : Value).ownBlock)) (Kd.R_apart' (HO191.out) (Kd.N_typed HO_8.out) (by decide)) (fun k_ hk => ⟨trivial, hk.2⟩)))) | exact fk_row6 (Kd.R_mono (ok' := (fun k_ => ((fun _ => True)) k_ ∧ some k_ ≠ (u8 : Value).ownBlock)) (Kd.R_apart' (HO191.out) (Kd.N_typed HO_8.out) (by decide)) (fun k_ hk => ⟨trivial, hk.2⟩))); (case aB => exact (by repeat (first | (with_reducible first | exact HB.out | apply below_alloc | apply pw_below_drewN | apply below_drew1) | exact HB.out))); (case aF => exact (fun _ _ => trivial)); (case aO => exact (by (with_reducible repeat (first | apply Kd.N_alloc | apply Kd.N_drewN | apply Kd.N_drew)); exact Kd.N_mono HO_8.out (fun _ hk => trivial))); (case aS => exact (below_size (by repeat (first | (with_reducible first | exact HB.out | apply below_alloc | apply pw_below_drewN | apply below_drew1) | exact HB.out)))); (case aL => have := LMc103.out; omega); intro v193 w109 ho hb hg hat; rw [← Ny192.out] at ho; have n0_ := Aside0.mk (hb); have n1_ := Aside0.mk (ho); clear HB; clear HO_8; clear HO191; have HB := n0_; have HO194 := n1_; clear n0_ n1_; clear ho hb hg hat) | ((with_reducible refine gate_dst (N := 105) rfl ?_); refine Kd.R_lit Kd.bool _ 4 ?hg (N := 105) ?hd (xs := ([false, true, true] : List Bool)) (inner := [.bool false, .bool true, .bool true]) (ok := fun _ => True) (okp := fun _ => True) ?hr ?hp (fun _ hk => hk) trivial (Below.refl _ _) (Nat.le_refl _) (by simp) ?_; (case hd => rfl); (case hg => rfl); (case hr => first | (go_simp; done) | (go_simp; rfl)); (case hp => exact (Reps.one (show Kd.M Kd.bool _ _ _ false [.bool false] from rfl) (Reps.one (show Kd.M Kd.bool _ _ _ true [.bool true] from rfl) (Reps.one (show Kd.M Kd.bool _ _ _ true [.bool true] from rfl) (Reps.none _ _))))); intro v196 w111 ho112 hb hg_ hnew_; clear hg_ hnew_; (first | rw [← Ny195.out] at ho112 | (simp only [Int.reduceToNat] at ho112; rw [← Ny195.out] at ho112)); have n0_ := Aside0.mk (Kd.N_elder' (by (with_reducible repeat (first | apply Kd.N_alloc | apply Kd.N_drewN | apply Kd.N_drew)); exact HO194.out) (Kd.R_base ho112) hb); have n1_ := Aside0.mk (Kd.R_lower ho112 (below_size (by repeat (first | (with_reducible first | exact HB.out | apply below_alloc | apply pw_below_drewN | apply below_drew1) | exact HB.out)))); have n2_ := Aside0.mk (below_step (by repeat (first | (with_reducible first | exact HB.out | apply below_alloc | apply pw_below_drewN | apply below_drew1) | exact HB.out)) hb); clear HO194; clear HB; have HO194 := n0_; have HO197 := n1_; have HB := n2_; clear n0_ n1_ n2_; clear hb ho112; obtain ⟨Ao113, co113, eo113⟩ := Kd.N_slice HO194.out; subst eo113; obtain ⟨Ao114, co114, eo114⟩ := Kd.R_slice HO197.out; subst eo114) | ((with_reducible refine gate_callee (f := 52) rfl ?_); refine goesL_ (some 106) rfl rfl Tryz.func52 (by kernel_rfl) rfl #[.slice Ao113 y192.length co113, .slice Ao114 y195.length co114] rfl (by (try simp only [List.map_toArray, List.map_cons, List.map_nil]); first | done | rfl | (simp only [List.length_drop, List.length_take]; rfl)) ?_; (with_reducible refine (daybookref17_Grid.calls kj93 _ _ y192 _ _ y195 t198 _ ?side1 ?side2 ?side3 ?side4 A104.out).mono ?_); (case side1 => repeat (first | exact (Kd.N_reads' HO194.out).2.2 | (with_reducible refine Kd.C_alloc ?_ _) | (with_reducible refine Kd.C_drewN ?_ _) | (with_reducible refine Kd.C_drew ?_))); (case side2 => exact (Kd.N_reads' HO194.out).2.1); (case side3 => repeat (first | exact (Kd.R_reads' HO197.out).2.2 | (with_reducible refine Kd.C_alloc ?_ _) | (with_reducible refine Kd.C_drewN ?_ _) | (with_reducible refine Kd.C_drew ?_))); (case side4 => exact (Kd.R_reads' HO197.out).2.1); rintro e w' ⟨rfl, ⟨nd, rfl⟩⟩; refine ⟨_, rfl, ?_⟩))
                  go_ret2
                  exact ⟨by first | rfl | (simp [errW_none, errW_some] <;> rfl) | (simp [*, errW_none, errW_some] <;> rfl), by repeat (first | (with_reducible first | exact HB.out | apply below_alloc | apply pw_below_drewN | apply below_drew1) | exact HB.out)⟩
                · rw [if_neg c103] at H
                  exact absurd H (by simp)
  · replace c4 := Bool.eq_false_iff.mpr c4
    subst c4
    have H1 : (some ((⟨#[]⟩ : ByteArray), 1)) = some (r1, r2) := by rw [if_neg (show ¬ (false = true) by decide)] at H; exact H
    clear H
    have H := H1
    clear H1
    simp only [Option.some.injEq, Prod.mk.injEq] at H
    obtain ⟨rfl, rfl⟩ := H
    go_enter Tryz.func11, Tryz.ntmps11
    go_wp2_with (first | ((with_reducible refine gate_callee (f := 48) rfl ?_); refine goesL_ (some 17) rfl rfl Tryz.func48 (by kernel_rfl) rfl #[.int .i64 a1] rfl (by (try simp only [List.map_toArray, List.map_cons, List.map_nil]); first | done | rfl | (simp only [List.length_drop, List.length_take]; rfl)) ?_; (with_reducible refine (daybookref17_digits.calls a1 false _ A3.out).mono ?_); rintro e w' ⟨rfl, ⟨nd, rfl⟩⟩; refine ⟨_, rfl, ?_⟩))
    go_ret2
    exact ⟨by first | rfl | (simp [errW_none, errW_some] <;> rfl) | (simp [*, errW_none, errW_some] <;> rfl), by repeat (first | (with_reducible first | exact HB.out | apply below_alloc | apply pw_below_drewN | apply below_drew1) | exact HB.out)⟩

/-! ### daybooklaw17_num: function 35 -/
def daybooklaw17_num.f (a0 : Int) : Option (Int) := some a0
set_option maxHeartbeats 8000000 in
set_option maxRecDepth 100000 in
theorem daybooklaw17_num.calls (a0 : Int) (r : Int) (w : World) (h : daybooklaw17_num.f a0 = some r) :
    Calls Tryz.prog 35 #[.int .i64 a0] w fun e w' => e = .returned (.int .i64 r) ∧ Drawn0 w w' := by
  have H : (some a0) = some r := h
  clear h
  obtain rfl := Option.some.inj H
  go_enter Tryz.func35, Tryz.ntmps35
  go_wp2
  go_ret
  exact ⟨by first | rfl | (simp; done) | (simp [*]; done), by repeat (first | exact Drawn0.refl _ | apply Drawn0.step)⟩

/-! ### daybooklaw17_like: function 12 -/
def daybooklaw17_like.f (a0 : ByteArray) (a1 : Int) (a2 : ByteArray) (a3 : Int) : Option (Bool) := if a0.toList = a2.toList then ((daybooklaw17_num.f a1).bind fun t199 => ((daybooklaw17_num.f a3).bind fun t200 => (some (t199 == t200)))) else (some false)
set_option maxHeartbeats 8000000 in
set_option maxRecDepth 100000 in
theorem daybooklaw17_like.calls (a0 : ByteArray) (a1 : Int) (a2 : ByteArray) (a3 : Int) (r : Bool) (w : World) (h : daybooklaw17_like.f a0 a1 a2 a3 = some r) :
    Calls Tryz.prog 12 #[.string a0, .int .i64 a1, .string a2, .int .i64 a3] w fun e w' => e = .returned (.bool r) ∧ Drawn0 w w' := by
  have H : (if a0.toList = a2.toList then ((daybooklaw17_num.f a1).bind fun t199 => ((daybooklaw17_num.f a3).bind fun t200 => (some (t199 == t200)))) else (some false)) = some r := h
  clear h
  by_cases c5 : a0.toList = a2.toList
  · rw [if_pos c5] at H
    have c5b0 : (a0.toList == a2.toList) = true := beq_iff_eq.mpr c5
    have c5b1 : (a0.toList != a2.toList) = false := bne_eq_false_iff_eq.mpr c5
    clear c5
    replace H := Option.bind_eq_some_iff.mp H
    obtain ⟨t199, A60, H⟩ := H
    replace H : ((daybooklaw17_num.f a3).bind fun t200 => (some (t199 == t200))) = some r := H
    have A6 := Aside0.mk A60
    clear A60
    replace H := Option.bind_eq_some_iff.mp H
    obtain ⟨t200, A70, H⟩ := H
    replace H : (some (t199 == t200)) = some r := H
    have A7 := Aside0.mk A70
    clear A70
    obtain rfl := Option.some.inj H
    go_enter Tryz.func12, Tryz.ntmps12
    go_wp2_with (first | (go_at_call 35; (with_reducible refine (daybooklaw17_num.calls a1 t199 _ A6.out).mono ?_); rintro e w' ⟨rfl, ⟨nd, rfl⟩⟩) | (go_at_call 35; (with_reducible refine (daybooklaw17_num.calls a3 t200 _ A7.out).mono ?_); rintro e w' ⟨rfl, ⟨nd, rfl⟩⟩))
    go_ret
    exact ⟨by first | rfl | (simp; done) | (simp [*]; done), by repeat (first | exact Drawn0.refl _ | apply Drawn0.step)⟩
  · rw [if_neg c5] at H
    have c5b0 : (a0.toList == a2.toList) = false := beq_eq_false_iff_ne.mpr c5
    have c5b1 : (a0.toList != a2.toList) = true := bne_iff_ne.mpr c5
    obtain rfl := Option.some.inj H
    go_enter Tryz.func12, Tryz.ntmps12
    go_wp2
    go_ret
    exact ⟨by first | rfl | (simp; done) | (simp [*]; done), by repeat (first | exact Drawn0.refl _ | apply Drawn0.step)⟩

end Go.Proofs.YtmimninicegjcaaGreatDoor.QT

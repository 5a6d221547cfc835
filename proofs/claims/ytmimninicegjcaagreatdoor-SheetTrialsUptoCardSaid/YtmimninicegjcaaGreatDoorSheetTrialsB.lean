/- Part 2 of the proof of RowTrials: LeafR, LeafR2, LeafR3, LeafR4, QT6, LeafE, HandGrid. -/
import Derived.Deep.QuietTactic
import Derived.BigQuiet
import Derived.Deep.RegionHeld3
import Derived.Outline
import Derived.Deep.RegionLaw
import Derived.Shelf.Strings.Builder1
import Derived.Test.YtmimninicegjcaaGreatDoorSheetTrialsA
/- daybookref01.Sum: numbers of 192 bits in six words. -/
namespace Go.Proofs.YtmimninicegjcaaGreatDoor
open Go.RowKit Go.Shelf Go.Lib Go.Proofs.YtmimninicegjcaaGreatDoorW.PrintWords Go.Proofs.YtmimninicegjcaaGreatDoorW.PrintLast Go.Proofs.YtmimninicegjcaaGreatDoorW.PrintMore
set_option linter.unusedVariables false
set_option linter.unusedSimpArgs false
/-! ### words of 32 bits -/
def wb (i : Nat) : Nat := 4294967296 ^ i
def dg (X : Nat) (i : Nat) : Nat := X / wb i % 4294967296
def wA (f : Nat → Nat) : Array Value := #[.int .u64 (f 0 : Nat), .int .u64 (f 1 : Nat), .int .u64 (f 2 : Nat), .int .u64 (f 3 : Nat), .int .u64 (f 4 : Nat), .int .u64 (f 5 : Nat)]
def wV (X : Nat) : Value := .agg (wA (dg X))
theorem wA_get (f : Nat → Nat) (i : Nat) (h : i < 6) : (wA f)[i]? = some (.int .u64 (f i : Nat)) := by
  have : i = 0 ∨ i = 1 ∨ i = 2 ∨ i = 3 ∨ i = 4 ∨ i = 5 := by omega
  rcases this with rfl | rfl | rfl | rfl | rfl | rfl <;> rfl
theorem wA_set (f : Nat → Nat) (i : Nat) (h : i < 6) (v : Nat) : (wA f).setIfInBounds i (.int .u64 (v : Nat)) = wA (fun j => if j = i then v else f j) := by
  have : i = 0 ∨ i = 1 ∨ i = 2 ∨ i = 3 ∨ i = 4 ∨ i = 5 := by omega
  rcases this with rfl | rfl | rfl | rfl | rfl | rfl <;> rfl
theorem wb_pos (i : Nat) : 0 < wb i := Nat.pow_pos (by decide)
theorem wb_succ (i : Nat) : wb (i + 1) = wb i * 4294967296 := Nat.pow_succ ..
theorem dg_lt (X i : Nat) : dg X i < 4294967296 := Nat.mod_lt _ (by decide)
theorem mod_succ (X i : Nat) : X % wb (i + 1) = X % wb i + wb i * dg X i := by
  rw [wb_succ, Nat.mod_mul, dg]
/-- What is carried into word i of a sum. -/
def carry (X Y i : Nat) : Nat := (X % wb i + Y % wb i) / wb i
theorem carry_lt (X Y i : Nat) : carry X Y i ≤ 1 := by
  unfold carry
  have h1 := Nat.mod_lt X (wb_pos i)
  have h2 := Nat.mod_lt Y (wb_pos i)
  have : (X % wb i + Y % wb i) / wb i < 2 := by rw [Nat.div_lt_iff_lt_mul (wb_pos i)]; omega
  omega
theorem carry_zero (X Y : Nat) : carry X Y 0 = 0 := by simp [carry, wb, Nat.mod_one]
theorem plus_dg (X Y i : Nat) : (carry X Y i + dg X i + dg Y i) % 4294967296 = dg (X + Y) i := by
  have h1 : X / wb i + Y / wb i + carry X Y i = (X + Y) / wb i := by
    unfold carry
    have hx := Nat.div_add_mod X (wb i)
    have hy := Nat.div_add_mod Y (wb i)
    have : X + Y = (X % wb i + Y % wb i) + wb i * (X / wb i + Y / wb i) := by rw [Nat.mul_add]; omega
    rw [this, Nat.add_mul_div_left _ _ (wb_pos i)]
    omega
  unfold dg
  rw [← h1]
  omega
theorem plus_carry (X Y i : Nat) : (carry X Y i + dg X i + dg Y i) / 4294967296 = carry X Y (i + 1) := by
  have h : (X % wb (i + 1) + Y % wb (i + 1)) = (X % wb i + Y % wb i) + wb i * (dg X i + dg Y i) := by rw [mod_succ, mod_succ, Nat.mul_add]; omega
  have h2 : carry X Y (i + 1) = ((X % wb i + Y % wb i) + wb i * (dg X i + dg Y i)) / (wb i * 4294967296) := by
    unfold carry
    rw [h, wb_succ]
  rw [h2, ← Nat.div_div_eq_div_mul, Nat.add_mul_div_left _ _ (wb_pos i)]
  unfold carry
  congr 1
  omega
def upTo (X k : Nat) : Nat → Nat := fun j => if j < k then dg X j else 0
theorem upTo_step (X k : Nat) : (fun j => if j = k then dg X k else upTo X k j) = upTo X (k + 1) := by
  funext j
  unfold upTo
  by_cases h : j = k
  · subst h; simp
  · rw [if_neg h]
    by_cases h2 : j < k
    · rw [if_pos h2, if_pos (by omega)]
    · rw [if_neg h2, if_neg (by omega)]
theorem upTo_six (X : Nat) : wA (upTo X 6) = wA (dg X) := by simp [wA, upTo]
theorem upTo_blk {W : World} {g X k t : Nat} (h : W.heap[g]? = some (.cells (wA (upTo X k)) t (0, 0))) (hk : k < 6) : (W.setCell ⟨g, k, none⟩ (.int .u64 (dg X k : Nat))).heap[g]? = some (.cells (wA (upTo X (k + 1))) t (0, 0)) := by
  have := blk_set h k (.int .u64 (dg X k : Nat))
  rw [wA_set _ _ hk, upTo_step] at this
  exact this
theorem six_set {W : World} {g t : Nat} {f : Nat → Nat} (h : W.heap[g]? = some (.cells (wA f) t (0, 0))) (v0 v1 v2 v3 v4 v5 : Value) :
    ((((((W.setCell ⟨g, 0, none⟩ v0).setCell ⟨g, 1, none⟩ v1).setCell ⟨g, 2, none⟩ v2).setCell ⟨g, 3, none⟩ v3).setCell ⟨g, 4, none⟩ v4).setCell ⟨g, 5, none⟩ v5).heap[g]? = some (.cells #[v0, v1, v2, v3, v4, v5] t (0, 0)) := by
  have := blk_set (blk_set (blk_set (blk_set (blk_set (blk_set h 0 v0) 1 v1) 2 v2) 3 v3) 4 v4) 5 v5
  simpa [wA] using this
theorem wide_size : (Tryz.prog.info? 156).map (·.size) = some 6 := by kernel_rfl
theorem cellAt {w : World} {g : Nat} {f : Nat → Nat} {t : Nat} (h : w.heap[g]? = some (.cells (wA f) t (0, 0))) (i : Nat) (hi : i < 6) : w.cell? ⟨g, i, none⟩ = some (.int .u64 (f i : Nat)) :=
  (blk_cell h i).trans (wA_get f i hi)
theorem al1 {w : World} {o : Obj} : w.heap.size + 1 = (w.alloc o).heap.size := (Array.size_push ..).symm
theorem al2 {w : World} {o p : Obj} : w.heap.size + 1 + 1 = ((w.alloc o).alloc p).heap.size := by rw [← al1, ← al1]
theorem al3 {w : World} {o p q : Obj} : w.heap.size + 1 + 1 + 1 = (((w.alloc o).alloc p).alloc q).heap.size := by rw [← al1, ← al1, ← al1]
theorem new_at {w : World} {o : Obj} {n : Nat} (h : n = w.heap.size) : (w.alloc o).heap[n]? = some o := by rw [h]; exact heap_alloc_new w o
theorem blk_far {W : World} {g k j : Nat} {o : Obj} {v : Value} (h : W.heap[g]? = some o) (hne : g ≠ k) : (W.setCell ⟨k, j, none⟩ v).heap[g]? = some o := (Below.heap_setCell W ⟨k, j, none⟩ v g hne).trans h
set_option maxRecDepth 100000 in
set_option maxHeartbeats 2000000 in
theorem Plus_calls (X Y : Nat) (w : World) :
    Calls Tryz.prog 111 #[wV X, wV Y] w fun en w' => en = .returned (wV (X + Y)) ∧ Below w.heap.size w w' := by
  unfold wV
  go_enter Tryz.func111, Tryz.ntmps111
  go_wp2_with fail
  go_loopw [6, 7] (fun v6 v7 wr => ∃ k : Nat, v7 = .int .i64 k ∧ k ≤ 6 ∧ v6 = .int .u64 (carry X Y k : Nat) ∧ Aside0 (wr.heap[w.heap.size]? = some (.cells (wA (dg X)) 156 (0, 0))) ∧ Aside0 (wr.heap[w.heap.size + 1]? = some (.cells (wA (dg Y)) 156 (0, 0))) ∧ Aside0 (wr.heap[w.heap.size + 1 + 1 + 1]? = some (.cells (wA (upTo (X + Y) k)) 156 (0, 0))) ∧ Aside0 (wr.heap[w.heap.size + 1 + 1]? = some (.cells (wA (fun _ => 0)) 156 (0, 0))) ∧ Aside0 (Below w.heap.size w wr)) (fun _ v _ => 6 - (RowKit.intOf v).toNat)
  case atStart =>
    refine ⟨0, rfl, by omega, by rw [carry_zero]; rfl, ⟨?_⟩, ⟨?_⟩, ⟨?_⟩, ⟨?_⟩, ⟨?_⟩⟩
    · repeat (first | exact new_at rfl | apply blk_alloc)
    · repeat (first | exact new_at al1 | apply blk_alloc)
    · exact new_at al3
    · exact blk_alloc (new_at al2) _
    · repeat (first | exact Below.refl _ _ | apply below_alloc)
  case round =>
    obtain ⟨k, rfl, hk, rfl, HX, HY, HZ, HR, HB⟩ := hrel
    by_cases hlt : k < 6
    · have hx := cellAt HX.out k hlt
      have hy := cellAt HY.out k hlt
      have fz := blk_frozen HZ.out k
      have hz := cellAt HZ.out k hlt
      have i1 : (k : Int) < 6 := by omega
      have i2 : (0 : Int) ≤ (k : Int) := by omega
      have HPD := Aside0.mk (plus_dg X Y k)
      have HPC := Aside0.mk (plus_carry X Y k)
      have b1 := carry_lt X Y k
      have b2 := dg_lt X k
      have b3 := dg_lt Y k
      generalize carry X Y k = c at *
      generalize dg X k = x at *
      generalize dg Y k = y at *
      obtain ⟨s, hs⟩ : ∃ s, c + x + y = s := ⟨_, rfl⟩
      rw [hs] at HPD HPC
      have e1 : IntKind.u64.wrap ((c : Int) + (x : Int)) = (c : Int) + (x : Int) := by rw [IntKind.wrap_u64]; omega
      have e2 : IntKind.u64.wrap ((c : Int) + (x : Int) + (y : Int)) = (s : Int) := by rw [IntKind.wrap_u64]; omega
      have e3 : (s : Int).tmod 4294967296 = ((dg (X + Y) k : Nat) : Int) := by rw [← HPD.out, Int.tmod_eq_emod_of_nonneg (by omega)]; omega
      have e4 : (s : Int).tdiv 4294967296 = ((carry X Y (k + 1) : Nat) : Int) := by rw [← HPC.out, Int.tdiv_eq_ediv_of_nonneg (by omega)]; omega
      have e5 : (s : Int) % 4294967296 = ((dg (X + Y) k : Nat) : Int) := by rw [← HPD.out]; omega
      have e6 : (s : Int) / 4294967296 = ((carry X Y (k + 1) : Nat) : Int) := by rw [← HPC.out]; omega
      have HSET := Aside0.mk (blk_set HZ.out k (.int .u64 (dg (X + Y) k : Nat)))
      have E3 := Aside0.mk e3
      have E4 := Aside0.mk e4
      have E5 := Aside0.mk e5
      have E6 := Aside0.mk e6
      clear b1 b2 b3 e3 e4 e5 e6 hs
      generalize hg0 : w.heap.size = g0 at *
      have HG0 := Aside0.mk hg0
      clear hg0
      go_wp2_with fail
      go_quiet (fail)
      clear e1 e2
      have e3 := E3.out
      have e4 := E4.out
      have e5 := E5.out
      have e6 := E6.out
      have e7 : IntKind.u64.wrap ((carry X Y (k + 1) : Nat) : Int) = ((carry X Y (k + 1) : Nat) : Int) := by rw [IntKind.wrap_u64]; have := carry_lt X Y (k + 1); omega
      go_wp2_with fail
      go_roundw
      case measure => simp [RowKit.intOf]; omega
      case rel =>
        exact ⟨k + 1, by go_num, hlt, rfl, ⟨blk_far (blk_drewN HX.out nq) (by omega)⟩, ⟨blk_far (blk_drewN HY.out nq) (by omega)⟩, ⟨upTo_blk (blk_drewN HZ.out nq) hlt⟩, ⟨blk_far (blk_drewN HR.out nq) (by omega)⟩,
          ⟨(pw_below_drewN HB.out nq).setCell (by show _ ≤ g0 + 1 + 1 + 1; omega) _⟩⟩
    · have hk6 : k = 6 := by omega
      subst hk6
      rw [upTo_six] at HZ
      have z0 := cellAt HZ.out 0 (by decide)
      have z1 := cellAt HZ.out 1 (by decide)
      have z2 := cellAt HZ.out 2 (by decide)
      have z3 := cellAt HZ.out 3 (by decide)
      have z4 := cellAt HZ.out 4 (by decide)
      have z5 := cellAt HZ.out 5 (by decide)
      have r0 := cellAt HR.out 0 (by decide)
      have r1 := cellAt HR.out 1 (by decide)
      have r2 := cellAt HR.out 2 (by decide)
      have r3 := cellAt HR.out 3 (by decide)
      have r4 := cellAt HR.out 4 (by decide)
      have r5 := cellAt HR.out 5 (by decide)
      have f0 := blk_frozen HR.out 0
      have f1 := blk_frozen HR.out 1
      have f2 := blk_frozen HR.out 2
      have f3 := blk_frozen HR.out 3
      have f4 := blk_frozen HR.out 4
      have f5 := blk_frozen HR.out 5
      generalize hg0 : w.heap.size = g0 at *
      have HG0 := Aside0.mk hg0
      clear hg0
      go_wp2_with fail
      have hle : g0 ≤ g0 + 1 + 1 := by omega
      refine bodyPost_ret (results_cell_row (P := Tryz.prog) rfl _ _ (g0 + 1 + 1) 156 (wA (dg (X + Y))) (0, 0) _ ?hp (six_set HR.out _ _ _ _ _ _) Tryz.underlying156 rfl wide_size) rfl ⟨rfl, ?hb⟩
      case hp => rfl
      case hb => rw [HG0.out]; exact (((((HB.out.setCell hle _).setCell hle _).setCell hle _).setCell hle _).setCell hle _).setCell hle _
def bw (X Y i : Nat) : Nat := if X % wb i < Y % wb i then 1 else 0
theorem bw_le (X Y i : Nat) : bw X Y i ≤ 1 := by unfold bw; split <;> omega
theorem bw_zero (X Y : Nat) : bw X Y 0 = 0 := by simp [bw, wb, Nat.mod_one]
theorem minus_div (X Y i : Nat) (h : Y ≤ X) : (X - Y) / wb i + Y / wb i + bw X Y i = X / wb i := by
  have hx := Nat.div_add_mod X (wb i)
  have hy := Nat.div_add_mod Y (wb i)
  have lx := Nat.mod_lt X (wb_pos i)
  have ly := Nat.mod_lt Y (wb_pos i)
  have hle : Y / wb i ≤ X / wb i := Nat.div_le_div_right h
  have hm : wb i * (X / wb i - Y / wb i) = wb i * (X / wb i) - wb i * (Y / wb i) := Nat.mul_sub ..
  have hmm : wb i * (Y / wb i) ≤ wb i * (X / wb i) := Nat.mul_le_mul_left _ hle
  unfold bw
  by_cases hb : X % wb i < Y % wb i
  · rw [if_pos hb]
    have hlt : Y / wb i < X / wb i := by
      rcases Nat.lt_or_ge (Y / wb i) (X / wb i) with h1 | h1
      · exact h1
      · exfalso
        have : X / wb i = Y / wb i := by omega
        rw [this] at hx
        omega
    obtain ⟨q, hq⟩ : ∃ q, X / wb i = Y / wb i + q + 1 := ⟨X / wb i - Y / wb i - 1, by omega⟩
    have e : X - Y = (wb i + X % wb i - Y % wb i) + wb i * q := by
      have : wb i * (X / wb i) = wb i * (Y / wb i) + wb i * q + wb i := by rw [hq, Nat.mul_add, Nat.mul_add, Nat.mul_one]
      omega
    rw [e, Nat.add_mul_div_left _ _ (wb_pos i), Nat.div_eq_of_lt (by omega)]
    omega
  · rw [if_neg hb]
    obtain ⟨q, hq⟩ : ∃ q, X / wb i = Y / wb i + q := ⟨X / wb i - Y / wb i, by omega⟩
    have e : X - Y = (X % wb i - Y % wb i) + wb i * q := by
      have : wb i * (X / wb i) = wb i * (Y / wb i) + wb i * q := by rw [hq, Nat.mul_add]
      omega
    rw [e, Nat.add_mul_div_left _ _ (wb_pos i), Nat.div_eq_of_lt (by omega)]
    omega
theorem minus_dg (X Y i : Nat) (h : Y ≤ X) : (dg X i + 4294967296 - dg Y i - bw X Y i) % 4294967296 = dg (X - Y) i := by
  have h1 := minus_div X Y i h
  have h2 := bw_le X Y i
  unfold dg
  omega
theorem minus_bw (X Y i : Nat) : 1 - (dg X i + 4294967296 - dg Y i - bw X Y i) / 4294967296 = bw X Y (i + 1) := by
  have hx := mod_succ X i
  have hy := mod_succ Y i
  have lx := Nat.mod_lt X (wb_pos i)
  have ly := Nat.mod_lt Y (wb_pos i)
  have dx := dg_lt X i
  have dy := dg_lt Y i
  unfold bw
  rw [hx, hy]
  generalize dg X i = x at *
  generalize dg Y i = y at *
  generalize X % wb i = rx at *
  generalize Y % wb i = ry at *
  rcases Nat.lt_trichotomy x y with hlt | heq | hgt
  · have : wb i * x + wb i ≤ wb i * y := by rw [← Nat.mul_succ]; exact Nat.mul_le_mul_left _ hlt
    rw [if_pos (show rx + wb i * x < ry + wb i * y by omega)]
    split <;> omega
  · subst heq
    by_cases hr : rx < ry
    · rw [if_pos hr, if_pos (by omega)]; omega
    · rw [if_neg hr, if_neg (by omega)]; omega
  · have : wb i * y + wb i ≤ wb i * x := by rw [← Nat.mul_succ]; exact Nat.mul_le_mul_left _ hgt
    rw [if_neg (show ¬ rx + wb i * x < ry + wb i * y by omega)]
    split <;> omega
set_option maxRecDepth 100000 in
set_option maxHeartbeats 2000000 in
theorem Minus_calls (X Y : Nat) (hXY : Y ≤ X) (w : World) :
    Calls Tryz.prog 114 #[wV X, wV Y] w fun en w' => en = .returned (wV (X - Y)) ∧ Below w.heap.size w w' := by
  unfold wV
  go_enter Tryz.func114, Tryz.ntmps114
  go_wp2_with fail
  go_loopw [6, 7, 8] (fun v6 v7 _ wr => ∃ k : Nat, v7 = .int .i64 k ∧ k ≤ 6 ∧ v6 = .int .u64 (bw X Y k : Nat) ∧ Aside0 (wr.heap[w.heap.size]? = some (.cells (wA (dg X)) 156 (0, 0))) ∧ Aside0 (wr.heap[w.heap.size + 1]? = some (.cells (wA (dg Y)) 156 (0, 0))) ∧ Aside0 (wr.heap[w.heap.size + 1 + 1 + 1]? = some (.cells (wA (upTo (X - Y) k)) 156 (0, 0))) ∧ Aside0 (wr.heap[w.heap.size + 1 + 1]? = some (.cells (wA (fun _ => 0)) 156 (0, 0))) ∧ Aside0 (Below w.heap.size w wr)) (fun _ v _ _ => 6 - (RowKit.intOf v).toNat)
  case atStart =>
    refine ⟨0, rfl, by omega, by rw [bw_zero]; rfl, ⟨?_⟩, ⟨?_⟩, ⟨?_⟩, ⟨?_⟩, ⟨?_⟩⟩
    · repeat (first | exact new_at rfl | apply blk_alloc)
    · repeat (first | exact new_at al1 | apply blk_alloc)
    · exact new_at al3
    · exact blk_alloc (new_at al2) _
    · repeat (first | exact Below.refl _ _ | apply below_alloc)
  case round =>
    obtain ⟨k, rfl, hk, rfl, HX, HY, HZ, HR, HB⟩ := hrel
    by_cases hlt : k < 6
    · have hx := cellAt HX.out k hlt
      have hy := cellAt HY.out k hlt
      have fz := blk_frozen HZ.out k
      have hz := cellAt HZ.out k hlt
      have i1 : (k : Int) < 6 := by omega
      have i2 : (0 : Int) ≤ (k : Int) := by omega
      have HPD := Aside0.mk (minus_dg X Y k hXY)
      have HPC := Aside0.mk (minus_bw X Y k)
      have b1 := bw_le X Y k
      have b2 := dg_lt X k
      have b3 := dg_lt Y k
      generalize bw X Y k = c at *
      generalize dg X k = x at *
      generalize dg Y k = y at *
      obtain ⟨s, hs⟩ : ∃ s, x + 4294967296 - y - c = s := ⟨_, rfl⟩
      rw [hs] at HPD HPC
      have e0 : IntKind.u64.wrap ((x : Int) + 4294967296) = (x : Int) + 4294967296 := by rw [IntKind.wrap_u64]; omega
      have e1 : IntKind.u64.wrap ((x : Int) + 4294967296 - (y : Int)) = (x : Int) + 4294967296 - (y : Int) := by rw [IntKind.wrap_u64]; omega
      have e2 : IntKind.u64.wrap ((x : Int) + 4294967296 - (y : Int) - (c : Int)) = (s : Int) := by rw [IntKind.wrap_u64]; omega
      have e3 : (s : Int).tmod 4294967296 = ((dg (X - Y) k : Nat) : Int) := by rw [← HPD.out, Int.tmod_eq_emod_of_nonneg (by omega)]; omega
      have e4 : 1 - (s : Int).tdiv 4294967296 = ((bw X Y (k + 1) : Nat) : Int) := by rw [← HPC.out, Int.tdiv_eq_ediv_of_nonneg (by omega)]; omega
      have e5 : (s : Int) % 4294967296 = ((dg (X - Y) k : Nat) : Int) := by rw [← HPD.out]; omega
      have e6 : 1 - (s : Int) / 4294967296 = ((bw X Y (k + 1) : Nat) : Int) := by rw [← HPC.out]; omega
      have HSET := Aside0.mk (blk_set HZ.out k (.int .u64 (dg (X - Y) k : Nat)))
      have E3 := Aside0.mk e3
      have E4 := Aside0.mk e4
      have E5 := Aside0.mk e5
      have E6 := Aside0.mk e6
      clear b1 b2 b3 e3 e4 e5 e6 hs
      generalize hg0 : w.heap.size = g0 at *
      have HG0 := Aside0.mk hg0
      clear hg0
      go_wp2_with fail
      go_quiet (fail)
      clear e0 e1 e2
      have e3 := E3.out
      have e4 := E4.out
      have e5 := E5.out
      have e6 := E6.out
      have e7 : IntKind.u64.wrap ((bw X Y (k + 1) : Nat) : Int) = ((bw X Y (k + 1) : Nat) : Int) := by rw [IntKind.wrap_u64]; have := bw_le X Y (k + 1); omega
      go_wp2_with fail
      go_roundw
      case measure => simp [RowKit.intOf]; omega
      case rel =>
        exact ⟨k + 1, by go_num, hlt, rfl, ⟨blk_far (blk_drewN HX.out nq) (by omega)⟩, ⟨blk_far (blk_drewN HY.out nq) (by omega)⟩, ⟨upTo_blk (blk_drewN HZ.out nq) hlt⟩, ⟨blk_far (blk_drewN HR.out nq) (by omega)⟩,
          ⟨(pw_below_drewN HB.out nq).setCell (by show _ ≤ g0 + 1 + 1 + 1; omega) _⟩⟩
    · have hk6 : k = 6 := by omega
      subst hk6
      rw [upTo_six] at HZ
      have z0 := cellAt HZ.out 0 (by decide)
      have z1 := cellAt HZ.out 1 (by decide)
      have z2 := cellAt HZ.out 2 (by decide)
      have z3 := cellAt HZ.out 3 (by decide)
      have z4 := cellAt HZ.out 4 (by decide)
      have z5 := cellAt HZ.out 5 (by decide)
      have r0 := cellAt HR.out 0 (by decide)
      have r1 := cellAt HR.out 1 (by decide)
      have r2 := cellAt HR.out 2 (by decide)
      have r3 := cellAt HR.out 3 (by decide)
      have r4 := cellAt HR.out 4 (by decide)
      have r5 := cellAt HR.out 5 (by decide)
      have f0 := blk_frozen HR.out 0
      have f1 := blk_frozen HR.out 1
      have f2 := blk_frozen HR.out 2
      have f3 := blk_frozen HR.out 3
      have f4 := blk_frozen HR.out 4
      have f5 := blk_frozen HR.out 5
      generalize hg0 : w.heap.size = g0 at *
      have HG0 := Aside0.mk hg0
      clear hg0
      go_wp2_with fail
      have hle : g0 ≤ g0 + 1 + 1 := by omega
      refine bodyPost_ret (results_cell_row (P := Tryz.prog) rfl _ _ (g0 + 1 + 1) 156 (wA (dg (X - Y))) (0, 0) _ ?hp (six_set HR.out _ _ _ _ _ _) Tryz.underlying156 rfl wide_size) rfl ⟨rfl, ?hb⟩
      case hp => rfl
      case hb => rw [HG0.out]; exact (((((HB.out.setCell hle _).setCell hle _).setCell hle _).setCell hle _).setCell hle _).setCell hle _
end Go.Proofs.YtmimninicegjcaaGreatDoor
/- daybookref01: Of, Below, amount, Is. -/
namespace Go.Proofs.YtmimninicegjcaaGreatDoor
open Go.RowKit Go.Shelf Go.Lib Go.Proofs.YtmimninicegjcaaGreatDoorW.PrintWords Go.Proofs.YtmimninicegjcaaGreatDoorW.PrintLast Go.Proofs.YtmimninicegjcaaGreatDoorW.PrintMore
set_option linter.unusedVariables false
set_option linter.unusedSimpArgs false
theorem Is_calls (a : Int) (w : World) :
    Calls Tryz.prog 110 #[.int .i64 a] w fun en w' => en = .returned (.bool (decide (a ≠ -9223372036854775808))) ∧ w = w' := by
  by_cases h : a = -9223372036854775808
  · subst h
    go_enter Tryz.func110, Tryz.ntmps110
    go_wp2
    go_ret
    exact ⟨rfl, rfl⟩
  · have h' : (a == -9223372036854775808) = false := beq_eq_false_iff_ne.2 h
    go_enter Tryz.func110, Tryz.ntmps110
    go_wp2
    go_ret
    exact ⟨by simp [h], rfl⟩
/-- A number of two words. -/
def two (x y : Nat) : Nat → Nat := fun j => if j = 0 then x else if j = 1 then y else 0
theorem of_two (X : Nat) (h : X < 18446744073709551616) : wA (two (X % 4294967296) (X / 4294967296)) = wA (dg X) := by
  have h0 : dg X 0 = X % 4294967296 := by simp [dg, wb]
  have h1 : dg X 1 = X / 4294967296 := by unfold dg wb; omega
  have h2 : dg X 2 = 0 := by unfold dg wb; omega
  have h3 : dg X 3 = 0 := by unfold dg wb; omega
  have h4 : dg X 4 = 0 := by unfold dg wb; omega
  have h5 : dg X 5 = 0 := by unfold dg wb; omega
  simp [wA, two, h0, h1, h2, h3, h4, h5]
set_option maxRecDepth 100000 in
set_option maxHeartbeats 2000000 in
theorem Of_calls (a : Int) (h0 : -9223372036854775808 ≤ a) (h1 : a ≤ 9223372036854775807) (w : World) :
    Calls Tryz.prog 112 #[.int .i64 a] w fun en w' => en = .returned (wV a.natAbs) ∧ Below w.heap.size w w' := by
  unfold wV
  obtain ⟨X, hX⟩ : ∃ X, a.natAbs = X := ⟨_, rfl⟩
  rw [hX]
  have HW := Aside0.mk (of_two X (by omega))
  have O1 := Aside0.mk (show (X : Int) % 4294967296 = ((X % 4294967296 : Nat) : Int) by omega)
  have O2 := Aside0.mk (show IntKind.u64.wrap ((X : Int) / 4294967296) = ((X / 4294967296 : Nat) : Int) by rw [IntKind.wrap_u64]; omega)
  have e3 : (X : Int).tmod 4294967296 = ((X % 4294967296 : Nat) : Int) := by rw [Int.tmod_eq_emod_of_nonneg (by omega)]; omega
  have e4 : (X : Int).tdiv 4294967296 = ((X / 4294967296 : Nat) : Int) := by rw [Int.tdiv_eq_ediv_of_nonneg (by omega)]; omega
  by_cases hn : a < 0
  · have hn' : decide (a < 0) = true := decide_eq_true hn
    have e1 : IntKind.u64.wrap a = a + 18446744073709551616 := by rw [IntKind.wrap_u64]; omega
    have e2 : IntKind.u64.wrap (-(a + 18446744073709551616)) = (X : Int) := by rw [IntKind.wrap_u64]; omega
    clear hn h0 h1 hX
    go_enter Tryz.func112, Tryz.ntmps112
    go_wp2_with fail
    refine bodyPost_ret (results_cell_row (P := Tryz.prog) rfl _ _ w.heap.size 156 #[.int .u64 ((X : Int) % 4294967296), .int .u64 (IntKind.u64.wrap ((X : Int) / 4294967296)), .int .u64 0, .int .u64 0, .int .u64 0, .int .u64 0] (0, 0) _ ?hp (blk_alloc (heap_alloc_new _ _) _) Tryz.underlying156 rfl wide_size) rfl ⟨?he, below_alloc (below_alloc (Below.refl _ _) _) _⟩
    case hp => rfl
    case he => rw [← HW.out, O1.out, O2.out]; rfl
  · have hn' : decide (a < 0) = false := decide_eq_false hn
    obtain rfl : a = (X : Int) := by omega
    have e1 : IntKind.u64.wrap (X : Int) = (X : Int) := by rw [IntKind.wrap_u64]; omega
    clear hn h0 h1 hX
    go_enter Tryz.func112, Tryz.ntmps112
    go_wp2_with fail
    refine bodyPost_ret (results_cell_row (P := Tryz.prog) rfl _ _ w.heap.size 156 #[.int .u64 ((X : Int) % 4294967296), .int .u64 (IntKind.u64.wrap ((X : Int) / 4294967296)), .int .u64 0, .int .u64 0, .int .u64 0, .int .u64 0] (0, 0) _ ?hp (blk_alloc (heap_alloc_new _ _) _) Tryz.underlying156 rfl wide_size) rfl ⟨?he, below_alloc (below_alloc (Below.refl _ _) _) _⟩
    case hp => rfl
    case he => rw [← HW.out, O1.out, O2.out]; rfl
theorem dg_zero_of_lt {X i : Nat} (h : X < wb i) : dg X i = 0 := by unfold dg; rw [Nat.div_eq_of_lt h]
theorem div_dg (X m : Nat) : X / wb m = X / wb (m + 1) * 4294967296 + dg X m := by
  unfold dg
  rw [wb_succ, ← Nat.div_div_eq_div_mul]
  omega
theorem lt_of_dg {X Y m : Nat} (h : X / wb (m + 1) = Y / wb (m + 1)) (hne : dg X m ≠ dg Y m) : decide (dg X m < dg Y m) = decide (X < Y) := by
  have h1 := div_dg X m
  have h2 := div_dg Y m
  rw [h] at h1
  by_cases hlt : dg X m < dg Y m
  · rw [decide_eq_true hlt, decide_eq_true]
    rcases Nat.lt_or_ge X Y with h3 | h3
    · exact h3
    · have := Nat.div_le_div_right (c := wb m) h3
      omega
  · rw [decide_eq_false hlt, decide_eq_false]
    intro h3
    have := Nat.div_le_div_right (c := wb m) (Nat.le_of_lt h3)
    omega
set_option maxRecDepth 100000 in
set_option maxHeartbeats 2000000 in
theorem Below_calls (X Y : Nat) (hX : X < wb 6) (hY : Y < wb 6) (w : World) :
    Calls Tryz.prog 113 #[wV X, wV Y] w fun en w' => en = .returned (.bool (decide (X < Y))) ∧ Below w.heap.size w w' := by
  unfold wV
  go_enter Tryz.func113, Tryz.ntmps113
  go_wp2_with fail
  go_loopw [5] (fun v wr => ∃ m : Nat, v = .int .i64 ((m : Int) - 1) ∧ m ≤ 6 ∧ X / wb m = Y / wb m ∧ Aside0 (wr.heap[w.heap.size]? = some (.cells (wA (dg X)) 156 (0, 0))) ∧ Aside0 (wr.heap[w.heap.size + 1]? = some (.cells (wA (dg Y)) 156 (0, 0))) ∧ Aside0 (Below w.heap.size w wr)) (fun v _ => (RowKit.intOf v + 1).toNat)
  case atStart =>
    refine ⟨6, rfl, by omega, by rw [Nat.div_eq_of_lt hX, Nat.div_eq_of_lt hY], ⟨?_⟩, ⟨?_⟩, ⟨?_⟩⟩
    · exact blk_alloc (heap_alloc_new _ _) _
    · exact new_at al1
    · repeat (first | exact Below.refl _ _ | apply below_alloc)
  case round =>
    obtain ⟨m, rfl, hm, hE, HX, HY, HB⟩ := hrel
    by_cases hlt : 0 < m
    · obtain ⟨k, rfl⟩ : ∃ k, m = k + 1 := ⟨m - 1, by omega⟩
      rw [show ((k + 1 : Nat) : Int) - 1 = (k : Int) by omega]
      have hx := cellAt HX.out k (by omega)
      have hy := cellAt HY.out k (by omega)
      have i1 : (k : Int) < 6 := by omega
      have i2 : (0 : Int) ≤ (k : Int) := by omega
      have hd := div_dg X k
      have hd2 := div_dg Y k
      have HL := Aside0.mk (fun hne => lt_of_dg (m := k) hE hne)
      rw [hE] at hd
      have HD := Aside0.mk hd
      have HD2 := Aside0.mk hd2
      have HM := Aside0.mk hm
      clear hd hd2 hE hm hlt
      generalize hg0 : w.heap.size = g0 at *
      have HG0 := Aside0.mk hg0
      clear hg0
      by_cases he : dg X k = dg Y k
      · have he' : (((dg X k : Nat) : Int) != ((dg Y k : Nat) : Int)) = false := by simp [he]
        go_wp2_with fail
        go_quiet (fail)
        go_wp2_with fail
        go_roundw
        case measure => (try simp [RowKit.intOf]); (try omega)
        case rel => exact ⟨k, by go_num, by have := HM.out; omega, by rw [HD.out, HD2.out, he], HX, HY, ⟨pw_below_drewN HB.out _⟩⟩
      · have he' : (((dg X k : Nat) : Int) != ((dg Y k : Nat) : Int)) = true := bne_iff_ne.2 (fun h => he (by omega))
        go_wp2_with fail
        go_quiet (fail)
        have HNE := Aside0.mk he
        clear he
        go_wp2_with fail
        go_quiet (fail)
        go_wp2_with fail
        go_ret
        exact ⟨by rw [← HL.out HNE.out]; simp, by rw [HG0.out]; exact pw_below_drewN (pw_below_drewN HB.out _) _⟩
    · have hm0 : m = 0 := by omega
      subst hm0
      have hXY : X = Y := by simpa [wb] using hE
      subst hXY
      rw [show ((0 : Nat) : Int) - 1 = -1 from rfl]
      go_wp2_with fail
      go_ret
      exact ⟨by simp, HB.out⟩
end Go.Proofs.YtmimninicegjcaaGreatDoor
/- daybookref01: amount, Sum. -/
namespace Go.Proofs.YtmimninicegjcaaGreatDoor
open Go.RowKit Go.Shelf Go.Lib Go.Proofs.YtmimninicegjcaaGreatDoorW.PrintWords Go.Proofs.YtmimninicegjcaaGreatDoorW.PrintLast Go.Proofs.YtmimninicegjcaaGreatDoorW.PrintMore
set_option linter.unusedVariables false
set_option linter.unusedSimpArgs false
set_option maxRecDepth 100000 in
set_option maxHeartbeats 2000000 in
theorem amount_fit (X : Nat) (hX : X < 9223372036854775808) (m : Bool) (w : World) :
    Calls Tryz.prog 115 #[wV X, .bool m] w fun en w' => en = .returned (.tuple #[.int .i64 (bif m then -(X : Int) else X), .bool true]) ∧ Below w.heap.size w w' := by
  unfold wV
  have h1 : dg X 1 < 2147483648 := by unfold dg wb; omega
  have h2 : dg X 2 = 0 := by unfold dg wb; omega
  have h3 : dg X 3 = 0 := by unfold dg wb; omega
  have h4 : dg X 4 = 0 := by unfold dg wb; omega
  have h5 : dg X 5 = 0 := by unfold dg wb; omega
  have h01 : dg X 1 * 4294967296 + dg X 0 = X := by unfold dg wb; omega
  have e : wA (dg X) = #[.int .u64 (dg X 0 : Nat), .int .u64 (dg X 1 : Nat), .int .u64 0, .int .u64 0, .int .u64 0, .int .u64 0] := by simp [wA, h2, h3, h4, h5]
  rw [e]
  clear e h2 h3 h4 h5
  have d1 : decide ((2147483648 : Int) ≤ ((dg X 1 : Nat) : Int)) = false := decide_eq_false (by omega)
  have d0 := dg_lt X 0
  generalize dg X 0 = x0 at *
  generalize dg X 1 = x1 at *
  have s1 : IntKind.u64.wrap ((x1 : Int) * 4294967296) = (x1 : Int) * 4294967296 := by rw [IntKind.wrap_u64]; omega
  have s2 : IntKind.u64.wrap ((x1 : Int) * 4294967296 + (x0 : Int)) = (X : Int) := by rw [IntKind.wrap_u64]; omega
  have s3 : IntKind.i64.wrap (X : Int) = (X : Int) := by rw [IntKind.wrap_i64]; omega
  have s4 : IntKind.i64.wrap (-(X : Int)) = -(X : Int) := by rw [IntKind.wrap_i64]; omega
  have HB := Aside0.mk (below_alloc (Below.refl w.heap.size w) (.cells #[.int .u64 (x0 : Nat), .int .u64 (x1 : Nat), .int .u64 0, .int .u64 0, .int .u64 0, .int .u64 0] 156 (0, 0)))
  clear h1 h01 d0 hX
  cases m
  · go_enter Tryz.func115, Tryz.ntmps115
    go_wp2_with fail
    go_ret2
    exact ⟨rfl, HB.out⟩
  · go_enter Tryz.func115, Tryz.ntmps115
    go_wp2_with fail
    go_ret2
    exact ⟨rfl, HB.out⟩
theorem over_digits (X : Nat) (hX : 9223372036854775808 ≤ X) (h6 : X < wb 6) : 2147483648 ≤ dg X 1 ∨ dg X 2 ≠ 0 ∨ dg X 3 ≠ 0 ∨ dg X 4 ≠ 0 ∨ dg X 5 ≠ 0 := by
  have d5 := div_dg X 5
  have d4 := div_dg X 4
  have d3 := div_dg X 3
  have d2 := div_dg X 2
  have d1 := div_dg X 1
  have d0 := div_dg X 0
  have z6 : X / wb 6 = 0 := Nat.div_eq_of_lt h6
  have z0 : X / wb 0 = X := by simp [wb]
  have l0 := dg_lt X 0
  simp only [Nat.reduceAdd] at d5 d4 d3 d2 d1 d0
  omega
set_option maxRecDepth 100000 in
set_option maxHeartbeats 2000000 in
theorem amount_over (X : Nat) (hX : 9223372036854775808 ≤ X) (h6 : X < wb 6) (m : Bool) (w : World) :
    Calls Tryz.prog 115 #[wV X, .bool m] w fun en w' => en = .returned (.tuple #[.int .i64 0, .bool false]) ∧ Below w.heap.size w w' := by
  unfold wV
  have HB := Aside0.mk (below_alloc (Below.refl w.heap.size w) (.cells (wA (dg X)) 156 (0, 0)))
  have ho := over_digits X hX h6
  clear hX h6
  unfold wA at HB ⊢
  generalize dg X 0 = x0 at *
  generalize dg X 1 = x1 at *
  generalize dg X 2 = x2 at *
  generalize dg X 3 = x3 at *
  generalize dg X 4 = x4 at *
  generalize dg X 5 = x5 at *
  by_cases c1 : 2147483648 ≤ x1
  · have d1 : decide ((2147483648 : Int) ≤ (x1 : Int)) = true := decide_eq_true (by omega)
    clear c1 ho
    (go_enter Tryz.func115, Tryz.ntmps115; go_wp2_with fail; go_ret2; exact ⟨rfl, HB.out⟩)
  · have d1 : decide ((2147483648 : Int) ≤ (x1 : Int)) = false := decide_eq_false (by omega)
    by_cases c2 : x2 = 0
    · subst c2
      by_cases c3 : x3 = 0
      · subst c3
        by_cases c4 : x4 = 0
        · subst c4
          have c5 : x5 ≠ 0 := by omega
          have d5 : ((x5 : Int) != 0) = true := bne_iff_ne.2 (by omega)
          clear c1 c5 ho
          (go_enter Tryz.func115, Tryz.ntmps115; go_wp2_with fail; go_ret2; exact ⟨rfl, HB.out⟩)
        · have d4 : ((x4 : Int) != 0) = true := bne_iff_ne.2 (by omega)
          clear c1 c4 ho
          (go_enter Tryz.func115, Tryz.ntmps115; go_wp2_with fail; go_ret2; exact ⟨rfl, HB.out⟩)
      · have d3 : ((x3 : Int) != 0) = true := bne_iff_ne.2 (by omega)
        clear c1 c3 ho
        (go_enter Tryz.func115, Tryz.ntmps115; go_wp2_with fail; go_ret2; exact ⟨rfl, HB.out⟩)
    · have d2 : ((x2 : Int) != 0) = true := bne_iff_ne.2 (by omega)
      clear c1 c2 ho
      (go_enter Tryz.func115, Tryz.ntmps115; go_wp2_with fail; go_ret2; exact ⟨rfl, HB.out⟩)
end Go.Proofs.YtmimninicegjcaaGreatDoor
/- daybookref01.Sum. -/
namespace Go.Proofs.YtmimninicegjcaaGreatDoor
open Go.RowKit Go.Shelf Go.Lib Go.Proofs.YtmimninicegjcaaGreatDoorW.PrintWords Go.Proofs.YtmimninicegjcaaGreatDoorW.PrintLast Go.Proofs.YtmimninicegjcaaGreatDoorW.PrintMore
set_option linter.unusedVariables false
set_option linter.unusedSimpArgs false
def ups (l : List Int) : Nat := (l.map fun a => if 0 ≤ a then a.natAbs else 0).sum
def downs (l : List Int) : Nat := (l.map fun a => if 0 ≤ a then 0 else a.natAbs).sum
theorem ups_snoc (l : List Int) (k : Nat) (h : k < l.length) : ups (l.take (k + 1)) = ups (l.take k) + (if 0 ≤ l[k] then l[k].natAbs else 0) := by
  rw [List.take_succ_eq_append_getElem h]
  simp only [ups, List.map_append, List.sum_append, List.map_cons, List.map_nil, List.sum_cons, List.sum_nil, Nat.add_zero]
theorem downs_snoc (l : List Int) (k : Nat) (h : k < l.length) : downs (l.take (k + 1)) = downs (l.take k) + (if 0 ≤ l[k] then 0 else l[k].natAbs) := by
  rw [List.take_succ_eq_append_getElem h]
  simp only [downs, List.map_append, List.sum_append, List.map_cons, List.map_nil, List.sum_cons, List.sum_nil, Nat.add_zero]
theorem ups_downs (l : List Int) : sumOf l = (ups l : Int) - (downs l : Int) := by
  induction l with
  | nil => rfl
  | cons a l ih =>
    have e1 : sumOf (a :: l) = a + sumOf l := rfl
    simp only [ups, downs, List.map_cons, List.sum_cons] at ih ⊢
    rw [e1, ih]
    by_cases h : 0 ≤ a
    · rw [if_pos h, if_pos h]; omega
    · rw [if_neg h, if_neg h]; omega
theorem ups_lt (l : List Int) (hl : l.length ≤ 1048576) (h : ∀ a ∈ l, -9223372036854775808 ≤ a ∧ a < 9223372036854775808) : ups l < wb 6 ∧ downs l < wb 6 := by
  have key : ∀ m : List Int, (∀ a ∈ m, -9223372036854775808 ≤ a ∧ a < 9223372036854775808) → ups m ≤ m.length * 9223372036854775808 ∧ downs m ≤ m.length * 9223372036854775808 := by
    intro m
    induction m with
    | nil => exact fun _ => ⟨by simp [ups], by simp [downs]⟩
    | cons a m ih =>
      intro hm
      have h1 := ih (fun x hx => hm x (by simp [hx]))
      have h2 := hm a (by simp)
      simp only [ups, downs, List.map_cons, List.sum_cons, List.length_cons] at h1 ⊢
      by_cases h : 0 ≤ a
      · rw [if_pos h, if_pos h]; omega
      · rw [if_neg h, if_neg h]; omega
  have := key l h
  have e : wb 6 = 6277101735386680763835789423207666416102355444464034512896 := by decide
  rw [e]
  omega
theorem sumSpec_fit {l : List Int} {s v e : Int} (hn : ∀ a ∈ l, a ≠ -9223372036854775808) (hs : sumOf l = s) (hr : -9223372036854775808 < s ∧ s < 9223372036854775808) (h : sumSpec l = (v, e)) : s = v ∧ 0 = e := by
  unfold sumSpec at h
  rw [if_pos (by rw [List.all_eq_true]; exact fun a ha => decide_eq_true (hn a ha)), hs, if_pos hr] at h
  simpa using h
theorem sumSpec_over {l : List Int} {v e : Int} (hn : ∀ a ∈ l, a ≠ -9223372036854775808) (hr : ¬ (-9223372036854775808 < sumOf l ∧ sumOf l < 9223372036854775808)) (h : sumSpec l = (v, e)) : 0 = v ∧ 11 = e := by
  unfold sumSpec at h
  rw [if_pos (by rw [List.all_eq_true]; exact fun a ha => decide_eq_true (hn a ha)), if_neg hr] at h
  simpa using h
theorem blk_far6 {W : World} {g k : Nat} {o : Obj} {v0 v1 v2 v3 v4 v5 : Value} (h : W.heap[g]? = some o) (hne : g ≠ k) :
    ((((((W.setCell ⟨k, 0, none⟩ v0).setCell ⟨k, 1, none⟩ v1).setCell ⟨k, 2, none⟩ v2).setCell ⟨k, 3, none⟩ v3).setCell ⟨k, 4, none⟩ v4).setCell ⟨k, 5, none⟩ v5).heap[g]? = some o :=
  blk_far (blk_far (blk_far (blk_far (blk_far (blk_far h hne) hne) hne) hne) hne) hne
theorem far6_below {w W : World} {g k : Nat} {v0 v1 v2 v3 v4 v5 : Value} (h : Below g w W) (hle : g ≤ k) :
    Below g w ((((((W.setCell ⟨k, 0, none⟩ v0).setCell ⟨k, 1, none⟩ v1).setCell ⟨k, 2, none⟩ v2).setCell ⟨k, 3, none⟩ v3).setCell ⟨k, 4, none⟩ v4).setCell ⟨k, 5, none⟩ v5) :=
  (((((h.setCell hle _).setCell hle _).setCell hle _).setCell hle _).setCell hle _).setCell hle _
set_option maxRecDepth 100000 in
set_option maxHeartbeats 4000000 in
theorem RefSum_walk (A : Option Addr) (cp : Nat) (l : List Int) (w : World) (hc : ∀ ad, A = some ad → ∀ k, (h : k < l.length) → w.cell? (ad.add k) = some (.int .i64 l[k])) (hA : l = [] ∨ ∃ ad, A = some ad)
    (hl : l.length ≤ 1048576) (hi : ∀ a ∈ l, -9223372036854775808 ≤ a ∧ a < 9223372036854775808) (v e : Int) (hs : sumSpec l = (v, e)) :
    Calls Tryz.prog 51 #[.slice A l.length cp] w fun en w' => en = .returned (.tuple #[.int .i64 v, .int .i64 e]) ∧ Below w.heap.size w w' := by
  have HC := Aside0.mk hc
  have HA := Aside0.mk hA
  have HL := Aside0.mk hl
  have HI := Aside0.mk hi
  have HS := Aside0.mk hs
  have i0 : (l.length : Int) ≤ 1048576 := by omega
  have HLT := Aside0.mk (ups_lt l hl hi)
  clear hc hA hl hi hs
  go_enter Tryz.func51, Tryz.ntmps51
  go_wp2_with fail
  go_loopw [6] (fun v wr => ∃ k : Nat, v = .int .i64 k ∧ k ≤ l.length ∧ Aside0 (∀ a ∈ l.take k, a ≠ -9223372036854775808) ∧ Aside0 (wr.heap[w.heap.size]? = some (.cells (wA (dg (ups (l.take k)))) 156 (0, 0))) ∧ Aside0 (wr.heap[w.heap.size + 1]? = some (.cells (wA (dg (downs (l.take k)))) 156 (0, 0))) ∧ Aside0 (Below w.heap.size w wr)) (fun v _ => l.length - (RowKit.intOf v).toNat)
  case atStart =>
    refine ⟨0, rfl, Nat.zero_le _, ⟨by simp⟩, ⟨?_⟩, ⟨?_⟩, ⟨?_⟩⟩
    · have e : wA (dg (ups (l.take 0))) = #[.int .u64 0, .int .u64 0, .int .u64 0, .int .u64 0, .int .u64 0, .int .u64 0] := by simp [wA, ups, dg]
      rw [e]
      exact blk_alloc (heap_alloc_new _ _) _
    · have e : wA (dg (downs (l.take 0))) = #[.int .u64 0, .int .u64 0, .int .u64 0, .int .u64 0, .int .u64 0, .int .u64 0] := by simp [wA, downs, dg]
      rw [e]
      exact new_at al1
    · repeat (first | exact Below.refl _ _ | apply below_alloc)
  case round =>
    obtain ⟨k, rfl, hk, HN, HU, HD, HB⟩ := hrel
    by_cases hlt : k < l.length
    · obtain ⟨ad, rfl⟩ : ∃ ad, A = some ad := by
        rcases HA.out with h | h
        · subst h; simp at hlt
        · exact h
      have hcell := HC.out ad rfl k hlt
      have hbk := World.block_lt_of_cell? w _ hcell
      replace hcell := (HB.out.cell hbk).trans hcell
      have hx := HI.out l[k] (List.getElem_mem hlt)
      have HUS := Aside0.mk (ups_snoc l k hlt)
      have HDS := Aside0.mk (downs_snoc l k hlt)
      have HNS : Aside0 (l[k] ≠ -9223372036854775808 → ∀ a ∈ l.take (k + 1), a ≠ -9223372036854775808) := ⟨fun hne a ha => by
        rw [List.take_succ_eq_append_getElem hlt, List.mem_append] at ha
        rcases ha with ha | ha
        · exact HN.out a ha
        · rw [List.mem_singleton.1 ha]; exact hne⟩
      have HMEM := Aside0.mk (List.getElem_mem hlt)
      have iK : (k : Int) < (l.length : Int) := by omega
      generalize l[k] = x at *
      have hx2 : x ≤ 9223372036854775807 := by have := hx.2; omega
      have HX1 := Aside0.mk hx.1
      have HX2 := Aside0.mk hx2
      have HBK := Aside0.mk hbk
      clear hx hbk hx2
      generalize ups (l.take k) = U at *
      generalize downs (l.take k) = D at *
      generalize hg0 : w.heap.size = g0 at *
      have HG0 := Aside0.mk hg0
      clear hg0
      go_wp2_with fail
      refine (Is_calls x _).mono ?_
      rintro en w2 ⟨rfl, rfl⟩
      by_cases hn : x = -9223372036854775808
      · have hd : decide (x ≠ -9223372036854775808) = false := by simp [hn]
        rw [hd]
        have HNX := Aside0.mk hn
        clear hd hn
        go_wp2_with fail
        go_ret2
        refine ⟨?_, by rw [HG0.out]; exact HB.out⟩
        have hs := HS.out
        unfold sumSpec at hs
        rw [if_neg (by
          rw [List.all_eq_true]
          intro h
          have := h x HMEM.out
          rw [HNX.out] at this
          simp at this)] at hs
        simp only [Prod.mk.injEq] at hs
        rw [← hs.1, ← hs.2]
        rfl
      · have hd : decide (x ≠ -9223372036854775808) = true := by simp [hn]
        rw [hd]
        have HNX := Aside0.mk (HNS.out hn)
        clear hd hn
        by_cases hp : 0 ≤ x
        · have hp' : decide (0 ≤ x) = true := decide_eq_true hp
          have HP := Aside0.mk hp
          clear hp
          have u0 : wr.cell? ⟨g0, 0, none⟩ = some (.int .u64 (dg U 0 : Nat)) := cellAt HU.out 0 (by decide)
          have u1 : wr.cell? ⟨g0, 1, none⟩ = some (.int .u64 (dg U 1 : Nat)) := cellAt HU.out 1 (by decide)
          have u2 : wr.cell? ⟨g0, 2, none⟩ = some (.int .u64 (dg U 2 : Nat)) := cellAt HU.out 2 (by decide)
          have u3 : wr.cell? ⟨g0, 3, none⟩ = some (.int .u64 (dg U 3 : Nat)) := cellAt HU.out 3 (by decide)
          have u4 : wr.cell? ⟨g0, 4, none⟩ = some (.int .u64 (dg U 4 : Nat)) := cellAt HU.out 4 (by decide)
          have u5 : wr.cell? ⟨g0, 5, none⟩ = some (.int .u64 (dg U 5 : Nat)) := cellAt HU.out 5 (by decide)
          go_wp2_with fail
          go_region_law (first
            | (go_simp; go_at_call 112; refine (Of_calls x HX1.out HX2.out _).mono ?_; rintro en w3 ⟨rfl, hb3⟩; have hb4 : Below wr.heap.size wr w3 := ⟨hb3.os, hb3.tape, hb3.output, hb3.size, hb3.block⟩; have HB4 := Aside0.mk hb4; have HV4 := Aside0.mk ((hb4.block _ (blk_lt HU.out)).trans HU.out); clear hb3 hb4; have v0 := cellAt HV4.out 0 (by decide); have v1 := cellAt HV4.out 1 (by decide); have v2 := cellAt HV4.out 2 (by decide); have v3 := cellAt HV4.out 3 (by decide); have v4 := cellAt HV4.out 4 (by decide); have v5 := cellAt HV4.out 5 (by decide); rw [wV, wA])
            | (go_simp; go_at_call 111; refine (Plus_calls U x.natAbs _).mono ?_; rintro en w4 ⟨rfl, hb5⟩; have HV5 := Aside0.mk ((hb5.block _ (blk_lt HV4.out)).trans HV4.out); have HB5 := Aside0.mk (below_step HB4.out hb5); clear hb5; have x0 := cellAt HV5.out 0 (by decide); have x1 := cellAt HV5.out 1 (by decide); have x2 := cellAt HV5.out 2 (by decide); have x3 := cellAt HV5.out 3 (by decide); have x4 := cellAt HV5.out 4 (by decide); have x5 := cellAt HV5.out 5 (by decide); have y0 := blk_frozen HV5.out 0; have y1 := blk_frozen HV5.out 1; have y2 := blk_frozen HV5.out 2; have y3 := blk_frozen HV5.out 3; have y4 := blk_frozen HV5.out 4; have y5 := blk_frozen HV5.out 5; rw [wV, wA]))
          all_goals (
            go_wp2_with fail
            go_roundw
            case measure => simp [RowKit.intOf]; omega
            case rel => exact ⟨k + 1, by go_num, hlt, HNX, ⟨by rw [HUS.out, if_pos HP.out]; exact six_set HV5.out _ _ _ _ _ _⟩, ⟨by rw [HDS.out, if_pos HP.out, Nat.add_zero]; exact blk_far6 ((HB5.out.block _ (blk_lt HD.out)).trans HD.out) (by omega)⟩, ⟨far6_below (HB.out.trans (HB5.out.mono (Nat.le_of_lt (blk_lt HU.out)))) (by omega)⟩⟩)
        · have hp' : decide (0 ≤ x) = false := decide_eq_false hp
          have HP := Aside0.mk hp
          clear hp
          have u0 : wr.cell? ⟨g0 + 1, 0, none⟩ = some (.int .u64 (dg D 0 : Nat)) := cellAt HD.out 0 (by decide)
          have u1 : wr.cell? ⟨g0 + 1, 1, none⟩ = some (.int .u64 (dg D 1 : Nat)) := cellAt HD.out 1 (by decide)
          have u2 : wr.cell? ⟨g0 + 1, 2, none⟩ = some (.int .u64 (dg D 2 : Nat)) := cellAt HD.out 2 (by decide)
          have u3 : wr.cell? ⟨g0 + 1, 3, none⟩ = some (.int .u64 (dg D 3 : Nat)) := cellAt HD.out 3 (by decide)
          have u4 : wr.cell? ⟨g0 + 1, 4, none⟩ = some (.int .u64 (dg D 4 : Nat)) := cellAt HD.out 4 (by decide)
          have u5 : wr.cell? ⟨g0 + 1, 5, none⟩ = some (.int .u64 (dg D 5 : Nat)) := cellAt HD.out 5 (by decide)
          go_wp2_with fail
          go_region_law (first
            | (go_simp; go_at_call 112; refine (Of_calls x HX1.out HX2.out _).mono ?_; rintro en w3 ⟨rfl, hb3⟩; have hb4 : Below wr.heap.size wr w3 := ⟨hb3.os, hb3.tape, hb3.output, hb3.size, hb3.block⟩; have HB4 := Aside0.mk hb4; have HV4 := Aside0.mk ((hb4.block _ (blk_lt HD.out)).trans HD.out); clear hb3 hb4; have v0 := cellAt HV4.out 0 (by decide); have v1 := cellAt HV4.out 1 (by decide); have v2 := cellAt HV4.out 2 (by decide); have v3 := cellAt HV4.out 3 (by decide); have v4 := cellAt HV4.out 4 (by decide); have v5 := cellAt HV4.out 5 (by decide); rw [wV, wA])
            | (go_simp; go_at_call 111; refine (Plus_calls D x.natAbs _).mono ?_; rintro en w4 ⟨rfl, hb5⟩; have HV5 := Aside0.mk ((hb5.block _ (blk_lt HV4.out)).trans HV4.out); have HB5 := Aside0.mk (below_step HB4.out hb5); clear hb5; have x0 := cellAt HV5.out 0 (by decide); have x1 := cellAt HV5.out 1 (by decide); have x2 := cellAt HV5.out 2 (by decide); have x3 := cellAt HV5.out 3 (by decide); have x4 := cellAt HV5.out 4 (by decide); have x5 := cellAt HV5.out 5 (by decide); have y0 := blk_frozen HV5.out 0; have y1 := blk_frozen HV5.out 1; have y2 := blk_frozen HV5.out 2; have y3 := blk_frozen HV5.out 3; have y4 := blk_frozen HV5.out 4; have y5 := blk_frozen HV5.out 5; rw [wV, wA]))
          all_goals (
            go_wp2_with fail
            go_roundw
            case measure => simp [RowKit.intOf]; omega
            case rel => exact ⟨k + 1, by go_num, hlt, HNX, ⟨by rw [HUS.out, if_neg (Int.not_le.2 HP.out), Nat.add_zero]; exact blk_far6 ((HB5.out.block _ (blk_lt HU.out)).trans HU.out) (by omega)⟩, ⟨by rw [HDS.out, if_neg (Int.not_le.2 HP.out)]; exact six_set HV5.out _ _ _ _ _ _⟩, ⟨far6_below (HB.out.trans (HB5.out.mono (Nat.le_of_lt (blk_lt HU.out)))) (by omega)⟩⟩)
    · have hk' : k = l.length := by omega
      subst hk'
      rw [List.take_length] at HN HU HD
      have HLU := Aside0.mk HLT.out.1
      have HLD := Aside0.mk HLT.out.2
      have HUD := Aside0.mk (ups_downs l)
      generalize ups l = U at *
      generalize downs l = D at *
      have hgw : w.heap.size ≤ wr.heap.size := HB.out.size
      have HGW := Aside0.mk hgw
      generalize hg0 : w.heap.size = g0 at *
      have HG0 := Aside0.mk hg0
      clear hg0 hgw hk hlt
      have u0 : wr.cell? ⟨g0, 0, none⟩ = some (.int .u64 (dg U 0 : Nat)) := cellAt HU.out 0 (by decide)
      have u1 : wr.cell? ⟨g0, 1, none⟩ = some (.int .u64 (dg U 1 : Nat)) := cellAt HU.out 1 (by decide)
      have u2 : wr.cell? ⟨g0, 2, none⟩ = some (.int .u64 (dg U 2 : Nat)) := cellAt HU.out 2 (by decide)
      have u3 : wr.cell? ⟨g0, 3, none⟩ = some (.int .u64 (dg U 3 : Nat)) := cellAt HU.out 3 (by decide)
      have u4 : wr.cell? ⟨g0, 4, none⟩ = some (.int .u64 (dg U 4 : Nat)) := cellAt HU.out 4 (by decide)
      have u5 : wr.cell? ⟨g0, 5, none⟩ = some (.int .u64 (dg U 5 : Nat)) := cellAt HU.out 5 (by decide)
      have d0 : wr.cell? ⟨g0 + 1, 0, none⟩ = some (.int .u64 (dg D 0 : Nat)) := cellAt HD.out 0 (by decide)
      have d1 : wr.cell? ⟨g0 + 1, 1, none⟩ = some (.int .u64 (dg D 1 : Nat)) := cellAt HD.out 1 (by decide)
      have d2 : wr.cell? ⟨g0 + 1, 2, none⟩ = some (.int .u64 (dg D 2 : Nat)) := cellAt HD.out 2 (by decide)
      have d3 : wr.cell? ⟨g0 + 1, 3, none⟩ = some (.int .u64 (dg D 3 : Nat)) := cellAt HD.out 3 (by decide)
      have d4 : wr.cell? ⟨g0 + 1, 4, none⟩ = some (.int .u64 (dg D 4 : Nat)) := cellAt HD.out 4 (by decide)
      have d5 : wr.cell? ⟨g0 + 1, 5, none⟩ = some (.int .u64 (dg D 5 : Nat)) := cellAt HD.out 5 (by decide)
      go_wp2_with fail
      refine (Below_calls U D HLU.out HLD.out _).mono ?_
      rintro en w2 ⟨rfl, hb2⟩
      have HU2 := Aside0.mk ((hb2.block _ (blk_lt HU.out)).trans HU.out)
      have HD2 := Aside0.mk ((hb2.block _ (blk_lt HD.out)).trans HD.out)
      have HB2 := Aside0.mk (HB.out.trans (hb2.mono HGW.out))
      have HGZ := Aside0.mk (Nat.le_trans HGW.out hb2.size)
      clear hb2 u0 u1 u2 u3 u4 u5 d0 d1 d2 d3 d4 d5
      by_cases hlt2 : U < D
      · have hd : decide (U < D) = true := decide_eq_true hlt2
        have HLE := Aside0.mk (Nat.le_of_lt hlt2)
        rw [hd]
        clear hd hlt2
        have u0 : w2.cell? ⟨g0, 0, none⟩ = some (.int .u64 (dg U 0 : Nat)) := cellAt HU2.out 0 (by decide)
        have u1 : w2.cell? ⟨g0, 1, none⟩ = some (.int .u64 (dg U 1 : Nat)) := cellAt HU2.out 1 (by decide)
        have u2 : w2.cell? ⟨g0, 2, none⟩ = some (.int .u64 (dg U 2 : Nat)) := cellAt HU2.out 2 (by decide)
        have u3 : w2.cell? ⟨g0, 3, none⟩ = some (.int .u64 (dg U 3 : Nat)) := cellAt HU2.out 3 (by decide)
        have u4 : w2.cell? ⟨g0, 4, none⟩ = some (.int .u64 (dg U 4 : Nat)) := cellAt HU2.out 4 (by decide)
        have u5 : w2.cell? ⟨g0, 5, none⟩ = some (.int .u64 (dg U 5 : Nat)) := cellAt HU2.out 5 (by decide)
        have d0 : w2.cell? ⟨g0 + 1, 0, none⟩ = some (.int .u64 (dg D 0 : Nat)) := cellAt HD2.out 0 (by decide)
        have d1 : w2.cell? ⟨g0 + 1, 1, none⟩ = some (.int .u64 (dg D 1 : Nat)) := cellAt HD2.out 1 (by decide)
        have d2 : w2.cell? ⟨g0 + 1, 2, none⟩ = some (.int .u64 (dg D 2 : Nat)) := cellAt HD2.out 2 (by decide)
        have d3 : w2.cell? ⟨g0 + 1, 3, none⟩ = some (.int .u64 (dg D 3 : Nat)) := cellAt HD2.out 3 (by decide)
        have d4 : w2.cell? ⟨g0 + 1, 4, none⟩ = some (.int .u64 (dg D 4 : Nat)) := cellAt HD2.out 4 (by decide)
        have d5 : w2.cell? ⟨g0 + 1, 5, none⟩ = some (.int .u64 (dg D 5 : Nat)) := cellAt HD2.out 5 (by decide)
        have HG9 := Aside0.mk (heap_alloc_new w2 (.cells (wA (dg U)) 156 (0, 0)))
        have HB9 := Aside0.mk (HB2.out.alloc HGZ.out (.cells (wA (dg U)) 156 (0, 0)))
        obtain ⟨g9, hg9⟩ : ∃ x, w2.heap.size = x := ⟨_, rfl⟩
        have HU9 := Aside0.mk (blk_alloc HU2.out (.cells (wA (dg U)) 156 (0, 0)))
        have HD9 := Aside0.mk (blk_alloc HD2.out (.cells (wA (dg U)) 156 (0, 0)))
        have p0 : (w2.alloc (.cells #[.int .u64 (dg U 0 : Nat), .int .u64 (dg U 1 : Nat), .int .u64 (dg U 2 : Nat), .int .u64 (dg U 3 : Nat), .int .u64 (dg U 4 : Nat), .int .u64 (dg U 5 : Nat)] 156 (0, 0))).cell? ⟨g0, 0, none⟩ = some (.int .u64 (dg U 0 : Nat)) := cellAt HU9.out 0 (by decide)
        have p1 : (w2.alloc (.cells #[.int .u64 (dg U 0 : Nat), .int .u64 (dg U 1 : Nat), .int .u64 (dg U 2 : Nat), .int .u64 (dg U 3 : Nat), .int .u64 (dg U 4 : Nat), .int .u64 (dg U 5 : Nat)] 156 (0, 0))).cell? ⟨g0, 1, none⟩ = some (.int .u64 (dg U 1 : Nat)) := cellAt HU9.out 1 (by decide)
        have p2 : (w2.alloc (.cells #[.int .u64 (dg U 0 : Nat), .int .u64 (dg U 1 : Nat), .int .u64 (dg U 2 : Nat), .int .u64 (dg U 3 : Nat), .int .u64 (dg U 4 : Nat), .int .u64 (dg U 5 : Nat)] 156 (0, 0))).cell? ⟨g0, 2, none⟩ = some (.int .u64 (dg U 2 : Nat)) := cellAt HU9.out 2 (by decide)
        have p3 : (w2.alloc (.cells #[.int .u64 (dg U 0 : Nat), .int .u64 (dg U 1 : Nat), .int .u64 (dg U 2 : Nat), .int .u64 (dg U 3 : Nat), .int .u64 (dg U 4 : Nat), .int .u64 (dg U 5 : Nat)] 156 (0, 0))).cell? ⟨g0, 3, none⟩ = some (.int .u64 (dg U 3 : Nat)) := cellAt HU9.out 3 (by decide)
        have p4 : (w2.alloc (.cells #[.int .u64 (dg U 0 : Nat), .int .u64 (dg U 1 : Nat), .int .u64 (dg U 2 : Nat), .int .u64 (dg U 3 : Nat), .int .u64 (dg U 4 : Nat), .int .u64 (dg U 5 : Nat)] 156 (0, 0))).cell? ⟨g0, 4, none⟩ = some (.int .u64 (dg U 4 : Nat)) := cellAt HU9.out 4 (by decide)
        have p5 : (w2.alloc (.cells #[.int .u64 (dg U 0 : Nat), .int .u64 (dg U 1 : Nat), .int .u64 (dg U 2 : Nat), .int .u64 (dg U 3 : Nat), .int .u64 (dg U 4 : Nat), .int .u64 (dg U 5 : Nat)] 156 (0, 0))).cell? ⟨g0, 5, none⟩ = some (.int .u64 (dg U 5 : Nat)) := cellAt HU9.out 5 (by decide)
        have q0 : (w2.alloc (.cells #[.int .u64 (dg U 0 : Nat), .int .u64 (dg U 1 : Nat), .int .u64 (dg U 2 : Nat), .int .u64 (dg U 3 : Nat), .int .u64 (dg U 4 : Nat), .int .u64 (dg U 5 : Nat)] 156 (0, 0))).cell? ⟨g0 + 1, 0, none⟩ = some (.int .u64 (dg D 0 : Nat)) := cellAt HD9.out 0 (by decide)
        have q1 : (w2.alloc (.cells #[.int .u64 (dg U 0 : Nat), .int .u64 (dg U 1 : Nat), .int .u64 (dg U 2 : Nat), .int .u64 (dg U 3 : Nat), .int .u64 (dg U 4 : Nat), .int .u64 (dg U 5 : Nat)] 156 (0, 0))).cell? ⟨g0 + 1, 1, none⟩ = some (.int .u64 (dg D 1 : Nat)) := cellAt HD9.out 1 (by decide)
        have q2 : (w2.alloc (.cells #[.int .u64 (dg U 0 : Nat), .int .u64 (dg U 1 : Nat), .int .u64 (dg U 2 : Nat), .int .u64 (dg U 3 : Nat), .int .u64 (dg U 4 : Nat), .int .u64 (dg U 5 : Nat)] 156 (0, 0))).cell? ⟨g0 + 1, 2, none⟩ = some (.int .u64 (dg D 2 : Nat)) := cellAt HD9.out 2 (by decide)
        have q3 : (w2.alloc (.cells #[.int .u64 (dg U 0 : Nat), .int .u64 (dg U 1 : Nat), .int .u64 (dg U 2 : Nat), .int .u64 (dg U 3 : Nat), .int .u64 (dg U 4 : Nat), .int .u64 (dg U 5 : Nat)] 156 (0, 0))).cell? ⟨g0 + 1, 3, none⟩ = some (.int .u64 (dg D 3 : Nat)) := cellAt HD9.out 3 (by decide)
        have q4 : (w2.alloc (.cells #[.int .u64 (dg U 0 : Nat), .int .u64 (dg U 1 : Nat), .int .u64 (dg U 2 : Nat), .int .u64 (dg U 3 : Nat), .int .u64 (dg U 4 : Nat), .int .u64 (dg U 5 : Nat)] 156 (0, 0))).cell? ⟨g0 + 1, 4, none⟩ = some (.int .u64 (dg D 4 : Nat)) := cellAt HD9.out 4 (by decide)
        have q5 : (w2.alloc (.cells #[.int .u64 (dg U 0 : Nat), .int .u64 (dg U 1 : Nat), .int .u64 (dg U 2 : Nat), .int .u64 (dg U 3 : Nat), .int .u64 (dg U 4 : Nat), .int .u64 (dg U 5 : Nat)] 156 (0, 0))).cell? ⟨g0 + 1, 5, none⟩ = some (.int .u64 (dg D 5 : Nat)) := cellAt HD9.out 5 (by decide)
        go_wp2_with fail
        refine (Minus_calls D U HLE.out _).mono ?_
        rintro en w3 ⟨rfl, hb3⟩
        have HG3 := Aside0.mk ((hb3.block _ (blk_lt HG9.out)).trans HG9.out)
        have HB3 := Aside0.mk (HB9.out.trans (hb3.mono (Nat.le_trans HGZ.out (below_alloc (Below.refl _ _) _).size)))
        clear hb3 u0 u1 u2 u3 u4 u5 d0 d1 d2 d3 d4 d5 p0 p1 p2 p3 p4 p5 q0 q1 q2 q3 q4 q5
        rw [hg9] at HG3
        have HG92 := Aside0.mk (show g0 ≤ g9 by have := HGZ.out; omega)
        clear hg9
        have u0 : w3.cell? ⟨g9, 0, none⟩ = some (.int .u64 (dg U 0 : Nat)) := cellAt HG3.out 0 (by decide)
        have u1 : w3.cell? ⟨g9, 1, none⟩ = some (.int .u64 (dg U 1 : Nat)) := cellAt HG3.out 1 (by decide)
        have u2 : w3.cell? ⟨g9, 2, none⟩ = some (.int .u64 (dg U 2 : Nat)) := cellAt HG3.out 2 (by decide)
        have u3 : w3.cell? ⟨g9, 3, none⟩ = some (.int .u64 (dg U 3 : Nat)) := cellAt HG3.out 3 (by decide)
        have u4 : w3.cell? ⟨g9, 4, none⟩ = some (.int .u64 (dg U 4 : Nat)) := cellAt HG3.out 4 (by decide)
        have u5 : w3.cell? ⟨g9, 5, none⟩ = some (.int .u64 (dg U 5 : Nat)) := cellAt HG3.out 5 (by decide)
        have f0 : w3.frozen? ⟨g9, 0, none⟩ = false := blk_frozen HG3.out 0
        have f1 : w3.frozen? ⟨g9, 1, none⟩ = false := blk_frozen HG3.out 1
        have f2 : w3.frozen? ⟨g9, 2, none⟩ = false := blk_frozen HG3.out 2
        have f3 : w3.frozen? ⟨g9, 3, none⟩ = false := blk_frozen HG3.out 3
        have f4 : w3.frozen? ⟨g9, 4, none⟩ = false := blk_frozen HG3.out 4
        have f5 : w3.frozen? ⟨g9, 5, none⟩ = false := blk_frozen HG3.out 5
        have HZB := Aside0.mk (far6_below (v0 := .int .u64 (dg (D - U) 0 : Nat)) (v1 := .int .u64 (dg (D - U) 1 : Nat)) (v2 := .int .u64 (dg (D - U) 2 : Nat)) (v3 := .int .u64 (dg (D - U) 3 : Nat)) (v4 := .int .u64 (dg (D - U) 4 : Nat)) (v5 := .int .u64 (dg (D - U) 5 : Nat)) HB3.out HG92.out)
        rw [wV, wA]
        by_cases hfit : (D - U) < 9223372036854775808
        · go_wp2_with fail
          refine (amount_fit (D - U) hfit true _).mono ?_
          rintro en w5 ⟨rfl, hb5⟩
          have HB5 := Aside0.mk (HZB.out.trans (hb5.mono (Nat.le_trans (Nat.le_of_eq HG0.out.symm) HZB.out.size)))
          have HFT := Aside0.mk hfit
          clear hb5 hfit
          go_wp2_with fail
          go_ret2
          have hres := sumSpec_fit (s := -((D - U : Nat) : Int)) HN.out (by have := HUD.out; have := HLE.out; omega) (by have := HFT.out; have := HLE.out; omega) HS.out
          obtain ⟨rfl, rfl⟩ := hres
          exact ⟨rfl, by rw [HG0.out]; exact HB5.out⟩
        · go_wp2_with fail
          refine (amount_over (D - U) (Nat.not_lt.1 hfit) (by have := HLU.out; have := HLD.out; omega) true _).mono ?_
          rintro en w5 ⟨rfl, hb5⟩
          have HB5 := Aside0.mk (HZB.out.trans (hb5.mono (Nat.le_trans (Nat.le_of_eq HG0.out.symm) HZB.out.size)))
          have HFT := Aside0.mk hfit
          clear hb5 hfit
          go_wp2_with fail
          go_ret2
          have hres := sumSpec_over HN.out (by have := HUD.out; have := HFT.out; have := HLE.out; omega) HS.out
          obtain ⟨rfl, rfl⟩ := hres
          exact ⟨rfl, by rw [HG0.out]; exact HB5.out⟩
      · have hd : decide (U < D) = false := decide_eq_false hlt2
        have HLE := Aside0.mk (Nat.not_lt.1 hlt2)
        rw [hd]
        clear hd hlt2
        have u0 : w2.cell? ⟨g0, 0, none⟩ = some (.int .u64 (dg U 0 : Nat)) := cellAt HU2.out 0 (by decide)
        have u1 : w2.cell? ⟨g0, 1, none⟩ = some (.int .u64 (dg U 1 : Nat)) := cellAt HU2.out 1 (by decide)
        have u2 : w2.cell? ⟨g0, 2, none⟩ = some (.int .u64 (dg U 2 : Nat)) := cellAt HU2.out 2 (by decide)
        have u3 : w2.cell? ⟨g0, 3, none⟩ = some (.int .u64 (dg U 3 : Nat)) := cellAt HU2.out 3 (by decide)
        have u4 : w2.cell? ⟨g0, 4, none⟩ = some (.int .u64 (dg U 4 : Nat)) := cellAt HU2.out 4 (by decide)
        have u5 : w2.cell? ⟨g0, 5, none⟩ = some (.int .u64 (dg U 5 : Nat)) := cellAt HU2.out 5 (by decide)
        have d0 : w2.cell? ⟨g0 + 1, 0, none⟩ = some (.int .u64 (dg D 0 : Nat)) := cellAt HD2.out 0 (by decide)
        have d1 : w2.cell? ⟨g0 + 1, 1, none⟩ = some (.int .u64 (dg D 1 : Nat)) := cellAt HD2.out 1 (by decide)
        have d2 : w2.cell? ⟨g0 + 1, 2, none⟩ = some (.int .u64 (dg D 2 : Nat)) := cellAt HD2.out 2 (by decide)
        have d3 : w2.cell? ⟨g0 + 1, 3, none⟩ = some (.int .u64 (dg D 3 : Nat)) := cellAt HD2.out 3 (by decide)
        have d4 : w2.cell? ⟨g0 + 1, 4, none⟩ = some (.int .u64 (dg D 4 : Nat)) := cellAt HD2.out 4 (by decide)
        have d5 : w2.cell? ⟨g0 + 1, 5, none⟩ = some (.int .u64 (dg D 5 : Nat)) := cellAt HD2.out 5 (by decide)
        have HG9 := Aside0.mk (heap_alloc_new w2 (.cells (wA (dg U)) 156 (0, 0)))
        have HB9 := Aside0.mk (HB2.out.alloc HGZ.out (.cells (wA (dg U)) 156 (0, 0)))
        obtain ⟨g9, hg9⟩ : ∃ x, w2.heap.size = x := ⟨_, rfl⟩
        have HU9 := Aside0.mk (blk_alloc HU2.out (.cells (wA (dg U)) 156 (0, 0)))
        have HD9 := Aside0.mk (blk_alloc HD2.out (.cells (wA (dg U)) 156 (0, 0)))
        have p0 : (w2.alloc (.cells #[.int .u64 (dg U 0 : Nat), .int .u64 (dg U 1 : Nat), .int .u64 (dg U 2 : Nat), .int .u64 (dg U 3 : Nat), .int .u64 (dg U 4 : Nat), .int .u64 (dg U 5 : Nat)] 156 (0, 0))).cell? ⟨g0, 0, none⟩ = some (.int .u64 (dg U 0 : Nat)) := cellAt HU9.out 0 (by decide)
        have p1 : (w2.alloc (.cells #[.int .u64 (dg U 0 : Nat), .int .u64 (dg U 1 : Nat), .int .u64 (dg U 2 : Nat), .int .u64 (dg U 3 : Nat), .int .u64 (dg U 4 : Nat), .int .u64 (dg U 5 : Nat)] 156 (0, 0))).cell? ⟨g0, 1, none⟩ = some (.int .u64 (dg U 1 : Nat)) := cellAt HU9.out 1 (by decide)
        have p2 : (w2.alloc (.cells #[.int .u64 (dg U 0 : Nat), .int .u64 (dg U 1 : Nat), .int .u64 (dg U 2 : Nat), .int .u64 (dg U 3 : Nat), .int .u64 (dg U 4 : Nat), .int .u64 (dg U 5 : Nat)] 156 (0, 0))).cell? ⟨g0, 2, none⟩ = some (.int .u64 (dg U 2 : Nat)) := cellAt HU9.out 2 (by decide)
        have p3 : (w2.alloc (.cells #[.int .u64 (dg U 0 : Nat), .int .u64 (dg U 1 : Nat), .int .u64 (dg U 2 : Nat), .int .u64 (dg U 3 : Nat), .int .u64 (dg U 4 : Nat), .int .u64 (dg U 5 : Nat)] 156 (0, 0))).cell? ⟨g0, 3, none⟩ = some (.int .u64 (dg U 3 : Nat)) := cellAt HU9.out 3 (by decide)
        have p4 : (w2.alloc (.cells #[.int .u64 (dg U 0 : Nat), .int .u64 (dg U 1 : Nat), .int .u64 (dg U 2 : Nat), .int .u64 (dg U 3 : Nat), .int .u64 (dg U 4 : Nat), .int .u64 (dg U 5 : Nat)] 156 (0, 0))).cell? ⟨g0, 4, none⟩ = some (.int .u64 (dg U 4 : Nat)) := cellAt HU9.out 4 (by decide)
        have p5 : (w2.alloc (.cells #[.int .u64 (dg U 0 : Nat), .int .u64 (dg U 1 : Nat), .int .u64 (dg U 2 : Nat), .int .u64 (dg U 3 : Nat), .int .u64 (dg U 4 : Nat), .int .u64 (dg U 5 : Nat)] 156 (0, 0))).cell? ⟨g0, 5, none⟩ = some (.int .u64 (dg U 5 : Nat)) := cellAt HU9.out 5 (by decide)
        have q0 : (w2.alloc (.cells #[.int .u64 (dg U 0 : Nat), .int .u64 (dg U 1 : Nat), .int .u64 (dg U 2 : Nat), .int .u64 (dg U 3 : Nat), .int .u64 (dg U 4 : Nat), .int .u64 (dg U 5 : Nat)] 156 (0, 0))).cell? ⟨g0 + 1, 0, none⟩ = some (.int .u64 (dg D 0 : Nat)) := cellAt HD9.out 0 (by decide)
        have q1 : (w2.alloc (.cells #[.int .u64 (dg U 0 : Nat), .int .u64 (dg U 1 : Nat), .int .u64 (dg U 2 : Nat), .int .u64 (dg U 3 : Nat), .int .u64 (dg U 4 : Nat), .int .u64 (dg U 5 : Nat)] 156 (0, 0))).cell? ⟨g0 + 1, 1, none⟩ = some (.int .u64 (dg D 1 : Nat)) := cellAt HD9.out 1 (by decide)
        have q2 : (w2.alloc (.cells #[.int .u64 (dg U 0 : Nat), .int .u64 (dg U 1 : Nat), .int .u64 (dg U 2 : Nat), .int .u64 (dg U 3 : Nat), .int .u64 (dg U 4 : Nat), .int .u64 (dg U 5 : Nat)] 156 (0, 0))).cell? ⟨g0 + 1, 2, none⟩ = some (.int .u64 (dg D 2 : Nat)) := cellAt HD9.out 2 (by decide)
        have q3 : (w2.alloc (.cells #[.int .u64 (dg U 0 : Nat), .int .u64 (dg U 1 : Nat), .int .u64 (dg U 2 : Nat), .int .u64 (dg U 3 : Nat), .int .u64 (dg U 4 : Nat), .int .u64 (dg U 5 : Nat)] 156 (0, 0))).cell? ⟨g0 + 1, 3, none⟩ = some (.int .u64 (dg D 3 : Nat)) := cellAt HD9.out 3 (by decide)
        have q4 : (w2.alloc (.cells #[.int .u64 (dg U 0 : Nat), .int .u64 (dg U 1 : Nat), .int .u64 (dg U 2 : Nat), .int .u64 (dg U 3 : Nat), .int .u64 (dg U 4 : Nat), .int .u64 (dg U 5 : Nat)] 156 (0, 0))).cell? ⟨g0 + 1, 4, none⟩ = some (.int .u64 (dg D 4 : Nat)) := cellAt HD9.out 4 (by decide)
        have q5 : (w2.alloc (.cells #[.int .u64 (dg U 0 : Nat), .int .u64 (dg U 1 : Nat), .int .u64 (dg U 2 : Nat), .int .u64 (dg U 3 : Nat), .int .u64 (dg U 4 : Nat), .int .u64 (dg U 5 : Nat)] 156 (0, 0))).cell? ⟨g0 + 1, 5, none⟩ = some (.int .u64 (dg D 5 : Nat)) := cellAt HD9.out 5 (by decide)
        go_wp2_with fail
        refine (Minus_calls U D HLE.out _).mono ?_
        rintro en w3 ⟨rfl, hb3⟩
        have HG3 := Aside0.mk ((hb3.block _ (blk_lt HG9.out)).trans HG9.out)
        have HB3 := Aside0.mk (HB9.out.trans (hb3.mono (Nat.le_trans HGZ.out (below_alloc (Below.refl _ _) _).size)))
        clear hb3 u0 u1 u2 u3 u4 u5 d0 d1 d2 d3 d4 d5 p0 p1 p2 p3 p4 p5 q0 q1 q2 q3 q4 q5
        rw [hg9] at HG3
        have HG92 := Aside0.mk (show g0 ≤ g9 by have := HGZ.out; omega)
        clear hg9
        have u0 : w3.cell? ⟨g9, 0, none⟩ = some (.int .u64 (dg U 0 : Nat)) := cellAt HG3.out 0 (by decide)
        have u1 : w3.cell? ⟨g9, 1, none⟩ = some (.int .u64 (dg U 1 : Nat)) := cellAt HG3.out 1 (by decide)
        have u2 : w3.cell? ⟨g9, 2, none⟩ = some (.int .u64 (dg U 2 : Nat)) := cellAt HG3.out 2 (by decide)
        have u3 : w3.cell? ⟨g9, 3, none⟩ = some (.int .u64 (dg U 3 : Nat)) := cellAt HG3.out 3 (by decide)
        have u4 : w3.cell? ⟨g9, 4, none⟩ = some (.int .u64 (dg U 4 : Nat)) := cellAt HG3.out 4 (by decide)
        have u5 : w3.cell? ⟨g9, 5, none⟩ = some (.int .u64 (dg U 5 : Nat)) := cellAt HG3.out 5 (by decide)
        have f0 : w3.frozen? ⟨g9, 0, none⟩ = false := blk_frozen HG3.out 0
        have f1 : w3.frozen? ⟨g9, 1, none⟩ = false := blk_frozen HG3.out 1
        have f2 : w3.frozen? ⟨g9, 2, none⟩ = false := blk_frozen HG3.out 2
        have f3 : w3.frozen? ⟨g9, 3, none⟩ = false := blk_frozen HG3.out 3
        have f4 : w3.frozen? ⟨g9, 4, none⟩ = false := blk_frozen HG3.out 4
        have f5 : w3.frozen? ⟨g9, 5, none⟩ = false := blk_frozen HG3.out 5
        have HZB := Aside0.mk (far6_below (v0 := .int .u64 (dg (U - D) 0 : Nat)) (v1 := .int .u64 (dg (U - D) 1 : Nat)) (v2 := .int .u64 (dg (U - D) 2 : Nat)) (v3 := .int .u64 (dg (U - D) 3 : Nat)) (v4 := .int .u64 (dg (U - D) 4 : Nat)) (v5 := .int .u64 (dg (U - D) 5 : Nat)) HB3.out HG92.out)
        rw [wV, wA]
        by_cases hfit : (U - D) < 9223372036854775808
        · go_wp2_with fail
          refine (amount_fit (U - D) hfit false _).mono ?_
          rintro en w5 ⟨rfl, hb5⟩
          have HB5 := Aside0.mk (HZB.out.trans (hb5.mono (Nat.le_trans (Nat.le_of_eq HG0.out.symm) HZB.out.size)))
          have HFT := Aside0.mk hfit
          clear hb5 hfit
          go_wp2_with fail
          go_ret2
          have hres := sumSpec_fit (s := ((U - D : Nat) : Int)) HN.out (by have := HUD.out; have := HLE.out; omega) (by have := HFT.out; have := HLE.out; omega) HS.out
          obtain ⟨rfl, rfl⟩ := hres
          exact ⟨rfl, by rw [HG0.out]; exact HB5.out⟩
        · go_wp2_with fail
          refine (amount_over (U - D) (Nat.not_lt.1 hfit) (by have := HLU.out; have := HLD.out; omega) false _).mono ?_
          rintro en w5 ⟨rfl, hb5⟩
          have HB5 := Aside0.mk (HZB.out.trans (hb5.mono (Nat.le_trans (Nat.le_of_eq HG0.out.symm) HZB.out.size)))
          have HFT := Aside0.mk hfit
          clear hb5 hfit
          go_wp2_with fail
          go_ret2
          have hres := sumSpec_over HN.out (by have := HUD.out; have := HFT.out; have := HLE.out; omega) HS.out
          obtain ⟨rfl, rfl⟩ := hres
          exact ⟨rfl, by rw [HG0.out]; exact HB5.out⟩
def L_RefSum.f (l0 : List Int) : Option (Int × Int) := if l0.length ≤ 1048576 ∧ (l0.all fun a => decide (-9223372036854775808 ≤ a ∧ a < 9223372036854775808)) = true then some (sumSpec l0) else none
theorem L_RefSum.calls (A0 : Option Addr) (c0 : Nat) (l0 : List Int) (r1 : Int) (r2 : Int) (w : World) (hr0 : Kd.C (Kd.int .i64) w A0 l0.length l0) (hc0 : l0.length ≤ c0) (h : L_RefSum.f l0 = some (r1, r2)) :
    Calls Tryz.prog 51 #[.slice A0 l0.length c0] w fun e w' => e = .returned (.tuple #[.int .i64 r1, .int .i64 r2]) ∧ Below w.heap.size w w' := by
  unfold L_RefSum.f at h
  split at h
  · rename_i hh
    obtain ⟨h1, h2⟩ := hh
    rw [List.all_eq_true] at h2
    have h2' : ∀ a ∈ l0, -9223372036854775808 ≤ a ∧ a < 9223372036854775808 := fun a ha => by simpa using h2 a ha
    obtain ⟨hc, hA⟩ := reads_ints hr0
    exact RefSum_walk A0 c0 l0 w hc hA h1 h2' r1 r2 (Option.some.inj h)
  · exact absurd h (by simp)
end Go.Proofs.YtmimninicegjcaaGreatDoor
-- Written by a program of this session (wip/myprint.py, which drives the kit's print with hand-proved leaves). Not trusted: Lean checks it.
namespace Go.Proofs.YtmimninicegjcaaGreatDoor.QT
open Go.RowKit Go.Proofs.YtmimninicegjcaaGreatDoorW.PrintWords Go.Proofs.YtmimninicegjcaaGreatDoorW.PrintLast Go.Proofs.YtmimninicegjcaaGreatDoorW.PrintMore
attribute [local go_sem] max2_int min2_int max_two min_two max_three min_three max_four min_four   -- for this text's walks alone
set_option linter.unusedVariables false
set_option linter.unusedSimpArgs false

theorem fk_row6 {α : Type} {d : Kd α} {e e' base n c : Nat} {ok : Nat → Prop} {w : World} {A : Option Addr} {xs : List α} (h : d.R e w base ok (.slice A n c) xs) : Kd.FK (Kd.slice e' d) w ok xs [.slice A n c] := fun W' hW => by
  have h2 := Kd.R_F h W' hW
  obtain ⟨hn, hl, _⟩ := Kd.R_reads' h
  rw [hn] at h2 hl ⊢
  exact ⟨A, c, rfl, hl, h2⟩

/-! ### daybookref17_Trial: function 11 -/
mutual
def daybookref17_Trial.l0 : Nat → List (S31) → Int → List Int → List Int → List (List ByteArray) → Int → Option (ByteArray × Int)
  | 0, _, _, _, _, _, _ => none
  | k + 1, x0, x1, x6, x7, x8, x9 => if x9 < (x0.length : Int) then (if 0 ≤ x9 then ((daybookref05_Name.f k ((rd_T31 x0 x9).f0)).bind fun t155 => (if t155 = true then (if ((rd_T31 x0 x9).f1) < 0 then (daybookref17_Trial.j1 k x0 x1 x6 x7 x8 x9 true ((rd_T31 x0 x9).f0) ((rd_T31 x0 x9).f1) ((rd_T31 x0 x9).f2)) else (daybookref17_Trial.j1 k x0 x1 x6 x7 x8 x9 (decide (((rd_T31 x0 x9).f2) < 0)) ((rd_T31 x0 x9).f0) ((rd_T31 x0 x9).f1) ((rd_T31 x0 x9).f2))) else (some ((⟨#[]⟩ : ByteArray), 60)))) else (none)) else ((L_RefSum.f x6).bind fun bt183 => ((L_RefSum.f x7).bind fun bt185 => (if bt183.2 = 0 then (daybookref17_Trial.j2 k x1 x8 bt183.1 bt185.1 (bt185.2 != 0)) else (daybookref17_Trial.j2 k x1 x8 bt183.1 bt185.1 true))))
def daybookref17_Trial.j1 : Nat → List (S31) → Int → List Int → List Int → List (List ByteArray) → Int → Bool → ByteArray → Int → Int → Option (ByteArray × Int)
  | 0, _, _, _, _, _, _, _, _, _, _ => none
  | k + 1, x0, x1, x6, x7, x8, x9, x42, x155000, x155001, x155002 => if x42 = true then (some ((⟨#[]⟩ : ByteArray), 10)) else (if x6.length < 17592186044416 then ((some (x6 ++ [x155001] : List Int)).bind fun y156 => (if x7.length < 17592186044416 then ((some (x7 ++ [x155002] : List Int)).bind fun y159 => ((some (([x155000, (⟨#[]⟩ : ByteArray), (⟨#[]⟩ : ByteArray)] : List ByteArray) : List ByteArray)).bind fun y162 => (if x155001 > 0 then ((daybookref17_money.f k x155001 x1).bind fun t165 => (if 1 < (y162.length : Int) then ((some (y162.set (1 : Int).toNat t165 : List ByteArray)).bind fun y166 => (if x155002 > 0 then ((daybookref17_money.f k x155002 x1).bind fun t167 => (if 2 < (y162.length : Int) then (if x8.length < 5864062014805 then (daybookref17_Trial.l0 k x0 x1 y156 y159 (x8 ++ [(y166.set (2 : Int).toNat t167)]) (wrap64 (x9 + 1))) else (none)) else (none))) else (if x8.length < 5864062014805 then (daybookref17_Trial.l0 k x0 x1 y156 y159 (x8 ++ [y166]) (wrap64 (x9 + 1))) else (none)))) else (none))) else (if x155002 > 0 then ((daybookref17_money.f k x155002 x1).bind fun t175 => (if 2 < (y162.length : Int) then (if x8.length < 5864062014805 then (daybookref17_Trial.l0 k x0 x1 y156 y159 (x8 ++ [(y162.set (2 : Int).toNat t175)]) (wrap64 (x9 + 1))) else (none)) else (none))) else (if x8.length < 5864062014805 then (daybookref17_Trial.l0 k x0 x1 y156 y159 (x8 ++ [y162]) (wrap64 (x9 + 1))) else (none)))))) else (none))) else (none))
def daybookref17_Trial.j2 : Nat → Int → List (List ByteArray) → Int → Int → Bool → Option (ByteArray × Int)
  | 0, _, _, _, _, _ => none
  | k + 1, x1, x8, x12, x14, x93 => if x93 = true then (some ((⟨#[]⟩ : ByteArray), 11)) else ((daybookref17_money.f k x12 x1).bind fun t187 => ((daybookref17_money.f k x14 x1).bind fun t188 => (if x8.length < 5864062014805 then ((daybookref17_Grid.f k (x8 ++ [(([(⟨#[83, 117, 109]⟩ : ByteArray), t187, t188] : List ByteArray))]) (([false, true, true] : List Bool))).bind fun t198 => (some (t198, 0))) else (none))))
end
def daybookref17_Trial.f (k : Nat) (l0 : List (S31)) (a1 : Int) : Option (ByteArray × Int) := (daybookref17_digits.f a1).bind fun t146 => (if t146 = true then (daybookref17_Trial.l0 k l0 a1 ([] : List Int) ([] : List Int) (([(([(⟨#[65, 99, 99, 111, 117, 110, 116]⟩ : ByteArray), (⟨#[68, 101, 98, 105, 116]⟩ : ByteArray), (⟨#[67, 114, 101, 100, 105, 116]⟩ : ByteArray)] : List ByteArray))] : List (List ByteArray))) 0) else (some ((⟨#[]⟩ : ByteArray), 1)))
theorem daybookref17_Trial.mono_l : ∀ k, (∀ y0 y1 y2 y3 y4 y5, LeO (daybookref17_Trial.l0 k y0 y1 y2 y3 y4 y5) (daybookref17_Trial.l0 (k + 1) y0 y1 y2 y3 y4 y5)) ∧ (∀ y0 y1 y2 y3 y4 y5 y6 y7 y8 y9, LeO (daybookref17_Trial.j1 k y0 y1 y2 y3 y4 y5 y6 y7 y8 y9) (daybookref17_Trial.j1 (k + 1) y0 y1 y2 y3 y4 y5 y6 y7 y8 y9)) ∧ (∀ y0 y1 y2 y3 y4, LeO (daybookref17_Trial.j2 k y0 y1 y2 y3 y4) (daybookref17_Trial.j2 (k + 1) y0 y1 y2 y3 y4))
  | 0 => ⟨fun _ _ _ _ _ _ r h => by simp [daybookref17_Trial.l0] at h, fun _ _ _ _ _ _ _ _ _ _ r h => by simp [daybookref17_Trial.j1] at h, fun _ _ _ _ _ r h => by simp [daybookref17_Trial.j2] at h⟩
  | k + 1 => by
    obtain ⟨ih0, ih1, ih2⟩ := daybookref17_Trial.mono_l k
    refine ⟨?_, ?_, ?_⟩
    · intro y0 y1 y2 y3 y4 y5
      unfold daybookref17_Trial.l0
      repeat' first
      | (with_reducible exact ih0 _ _ _ _ _ _)
      | (with_reducible exact ih1 _ _ _ _ _ _ _ _ _ _)
      | (with_reducible exact ih2 _ _ _ _ _)
      | (with_reducible exact daybookref05_Name.mono _ _)
      | (with_reducible exact daybookref17_Grid.mono _ _ _)
      | (with_reducible exact daybookref17_money.mono _ _ _)
      | (with_reducible exact LeO.refl _)
      | (with_reducible exact LeO.none _)
      | (with_reducible refine LeO.ite ?_ ?_)
      | (with_reducible refine LeO.bind ?_ (fun _ => ?_))
      | exact ih0 _ _ _ _ _ _
      | exact ih1 _ _ _ _ _ _ _ _ _ _
      | exact ih2 _ _ _ _ _
      | exact daybookref05_Name.mono _ _
      | exact daybookref17_Grid.mono _ _ _
      | exact daybookref17_money.mono _ _ _
      | exact LeO.none _
      | refine LeO.ite ?_ ?_
      | refine LeO.bind ?_ (fun _ => ?_)
    · intro y0 y1 y2 y3 y4 y5 y6 y7 y8 y9
      unfold daybookref17_Trial.j1
      repeat' first
      | (with_reducible exact ih0 _ _ _ _ _ _)
      | (with_reducible exact ih1 _ _ _ _ _ _ _ _ _ _)
      | (with_reducible exact ih2 _ _ _ _ _)
      | (with_reducible exact daybookref05_Name.mono _ _)
      | (with_reducible exact daybookref17_Grid.mono _ _ _)
      | (with_reducible exact daybookref17_money.mono _ _ _)
      | (with_reducible exact LeO.refl _)
      | (with_reducible exact LeO.none _)
      | (with_reducible refine LeO.ite ?_ ?_)
      | (with_reducible refine LeO.bind ?_ (fun _ => ?_))
      | exact ih0 _ _ _ _ _ _
      | exact ih1 _ _ _ _ _ _ _ _ _ _
      | exact ih2 _ _ _ _ _
      | exact daybookref05_Name.mono _ _
      | exact daybookref17_Grid.mono _ _ _
      | exact daybookref17_money.mono _ _ _
      | exact LeO.none _
      | refine LeO.ite ?_ ?_
      | refine LeO.bind ?_ (fun _ => ?_)
    · intro y0 y1 y2 y3 y4
      unfold daybookref17_Trial.j2
      repeat' first
      | (with_reducible exact ih0 _ _ _ _ _ _)
      | (with_reducible exact ih1 _ _ _ _ _ _ _ _ _ _)
      | (with_reducible exact ih2 _ _ _ _ _)
      | (with_reducible exact daybookref05_Name.mono _ _)
      | (with_reducible exact daybookref17_Grid.mono _ _ _)
      | (with_reducible exact daybookref17_money.mono _ _ _)
      | (with_reducible exact LeO.refl _)
      | (with_reducible exact LeO.none _)
      | (with_reducible refine LeO.ite ?_ ?_)
      | (with_reducible refine LeO.bind ?_ (fun _ => ?_))
      | exact ih0 _ _ _ _ _ _
      | exact ih1 _ _ _ _ _ _ _ _ _ _
      | exact ih2 _ _ _ _ _
      | exact daybookref05_Name.mono _ _
      | exact daybookref17_Grid.mono _ _ _
      | exact daybookref17_money.mono _ _ _
      | exact LeO.none _
      | refine LeO.ite ?_ ?_
      | refine LeO.bind ?_ (fun _ => ?_)
theorem daybookref17_Trial.mono : ∀ a0 a1 k, LeO (daybookref17_Trial.f k a0 a1) (daybookref17_Trial.f (k + 1) a0 a1) := by
  intro a0 a1 k
  obtain ⟨ih0, ih1, ih2⟩ := daybookref17_Trial.mono_l k
  unfold daybookref17_Trial.f
  repeat' first
      | (with_reducible exact ih0 _ _ _ _ _ _)
      | (with_reducible exact ih1 _ _ _ _ _ _ _ _ _ _)
      | (with_reducible exact ih2 _ _ _ _ _)
      | (with_reducible exact daybookref05_Name.mono _ _)
      | (with_reducible exact daybookref17_Grid.mono _ _ _)
      | (with_reducible exact daybookref17_money.mono _ _ _)
      | (with_reducible exact LeO.refl _)
      | (with_reducible exact LeO.none _)
      | (with_reducible refine LeO.ite ?_ ?_)
      | (with_reducible refine LeO.bind ?_ (fun _ => ?_))
      | exact ih0 _ _ _ _ _ _
      | exact ih1 _ _ _ _ _ _ _ _ _ _
      | exact ih2 _ _ _ _ _
      | exact daybookref05_Name.mono _ _
      | exact daybookref17_Grid.mono _ _ _
      | exact daybookref17_money.mono _ _ _
      | exact LeO.none _
      | refine LeO.ite ?_ ?_
      | refine LeO.bind ?_ (fun _ => ?_)
set_option maxHeartbeats 8000000 in
set_option maxRecDepth 100000 in
theorem daybookref17_Trial.calls (k : Nat) (A0 : Option Addr) (c0 : Nat) (l0 : List (S31)) (a1 : Int) (r1 : ByteArray) (r2 : Int) (w : World) (hr0 : Kd.C k31 w A0 l0.length l0) (hc0 : l0.length ≤ c0) (h : daybookref17_Trial.f k l0 a1 = some (r1, r2)) :
    Calls Tryz.prog 11 #[.slice A0 l0.length c0, .int .i64 a1] w fun e w' => e = .returned (.tuple #[.string r1, .int .i64 r2]) ∧ Below w.heap.size w w' := by
  have hu31 := Tryz.underlying31
  have HR0 := Aside0.mk hr0
  have HC0 := Aside0.mk hc0
  clear hr0 hc0
  have HB := Aside0.mk (Below.refl w.heap.size w)
  have H : ((daybookref17_digits.f a1).bind fun t146 => (if t146 = true then (daybookref17_Trial.l0 k l0 a1 ([] : List Int) ([] : List Int) (([(([(⟨#[65, 99, 99, 111, 117, 110, 116]⟩ : ByteArray), (⟨#[68, 101, 98, 105, 116]⟩ : ByteArray), (⟨#[67, 114, 101, 100, 105, 116]⟩ : ByteArray)] : List ByteArray))] : List (List ByteArray))) 0) else (some ((⟨#[]⟩ : ByteArray), 1)))) = some (r1, r2) := h
  clear h
  replace H := Option.bind_eq_some_iff.mp H
  obtain ⟨t146, A30, H⟩ := H
  replace H : (if t146 = true then (daybookref17_Trial.l0 k l0 a1 ([] : List Int) ([] : List Int) (([(([(⟨#[65, 99, 99, 111, 117, 110, 116]⟩ : ByteArray), (⟨#[68, 101, 98, 105, 116]⟩ : ByteArray), (⟨#[67, 114, 101, 100, 105, 116]⟩ : ByteArray)] : List ByteArray))] : List (List ByteArray))) 0) else (some ((⟨#[]⟩ : ByteArray), 1))) = some (r1, r2) := H
  have A3 := Aside0.mk A30
  clear A30
  by_cases c4 : t146 = true
  · subst c4
    have H1 : (daybookref17_Trial.l0 k l0 a1 ([] : List Int) ([] : List Int) (([(([(⟨#[65, 99, 99, 111, 117, 110, 116]⟩ : ByteArray), (⟨#[68, 101, 98, 105, 116]⟩ : ByteArray), (⟨#[67, 114, 101, 100, 105, 116]⟩ : ByteArray)] : List ByteArray))] : List (List ByteArray))) 0) = some (r1, r2) := by rw [if_pos rfl] at H; exact H
    clear H
    have H := H1
    clear H1
    obtain ⟨y147, hy147⟩ : ∃ y_ : List ByteArray, y_ = (([(⟨#[65, 99, 99, 111, 117, 110, 116]⟩ : ByteArray), (⟨#[68, 101, 98, 105, 116]⟩ : ByteArray), (⟨#[67, 114, 101, 100, 105, 116]⟩ : ByteArray)] : List ByteArray)) := ⟨_, rfl⟩
    replace H : (daybookref17_Trial.l0 k l0 a1 ([] : List Int) ([] : List Int) (([y147] : List (List ByteArray))) 0) = some (r1, r2) := by first | (rw [hy147]; with_reducible exact H) | (have H2_ := (Option.bind_some _ _).symm.trans H; rw [hy147]; with_reducible exact H2_) | (have H2_ := (Option.bind_some _ _).symm.trans H; with_reducible exact H2_) | with_reducible exact H | (rw [hy147]; exact H) | exact H
    have Ny147 := Aside0.mk hy147
    clear hy147
    obtain ⟨y150, hy150⟩ : ∃ y_ : List (List ByteArray), y_ = (([y147] : List (List ByteArray))) := ⟨_, rfl⟩
    replace H : (daybookref17_Trial.l0 k l0 a1 ([] : List Int) ([] : List Int) y150 0) = some (r1, r2) := by first | (rw [hy150]; with_reducible exact H) | (have H2_ := (Option.bind_some _ _).symm.trans H; rw [hy150]; with_reducible exact H2_) | (have H2_ := (Option.bind_some _ _).symm.trans H; with_reducible exact H2_) | with_reducible exact H | (rw [hy150]; exact H) | exact H
    have Ny150 := Aside0.mk hy150
    clear hy150
    have H' := Aside0.mk H
    clear H
    go_enter Tryz.func11, Tryz.ntmps11
    go_wp2_with (first | ((with_reducible refine gate_callee (f := 48) rfl ?_); refine goesL_ (some 17) rfl rfl Tryz.func48 (by kernel_rfl) rfl #[.int .i64 a1] rfl (by (try simp only [List.map_toArray, List.map_cons, List.map_nil]); first | done | rfl | (simp only [List.length_drop, List.length_take]; rfl)) ?_; (with_reducible refine (daybookref17_digits.calls a1 true _ A3.out).mono ?_); rintro e w' ⟨rfl, ⟨nd, rfl⟩⟩; refine ⟨_, rfl, ?_⟩) | ((with_reducible refine gate_dst (N := 19) rfl ?_); refine Kd.R_lit Kd.string _ 9 ?hg (N := 19) ?hd (xs := ([(⟨#[65, 99, 99, 111, 117, 110, 116]⟩ : ByteArray), (⟨#[68, 101, 98, 105, 116]⟩ : ByteArray), (⟨#[67, 114, 101, 100, 105, 116]⟩ : ByteArray)] : List ByteArray)) (inner := [.string (⟨#[65, 99, 99, 111, 117, 110, 116]⟩ : ByteArray), .string (⟨#[68, 101, 98, 105, 116]⟩ : ByteArray), .string (⟨#[67, 114, 101, 100, 105, 116]⟩ : ByteArray)]) (ok := fun _ => True) (okp := fun _ => True) ?hr ?hp (fun _ hk => hk) trivial (Below.refl _ _) (Nat.le_refl _) (by simp) ?_; (case hd => rfl); (case hg => rfl); (case hr => first | (go_simp; done) | (go_simp; rfl)); (case hp => exact (Reps.one (show Kd.M Kd.string _ _ _ (⟨#[65, 99, 99, 111, 117, 110, 116]⟩ : ByteArray) [.string (⟨#[65, 99, 99, 111, 117, 110, 116]⟩ : ByteArray)] from rfl) (Reps.one (show Kd.M Kd.string _ _ _ (⟨#[68, 101, 98, 105, 116]⟩ : ByteArray) [.string (⟨#[68, 101, 98, 105, 116]⟩ : ByteArray)] from rfl) (Reps.one (show Kd.M Kd.string _ _ _ (⟨#[67, 114, 101, 100, 105, 116]⟩ : ByteArray) [.string (⟨#[67, 114, 101, 100, 105, 116]⟩ : ByteArray)] from rfl) (Reps.none _ _))))); intro v148 w5 ho6 hb hg_ hnew_; clear hg_ hnew_; (first | rw [← Ny147.out] at ho6 | (simp only [Int.reduceToNat] at ho6; rw [← Ny147.out] at ho6)); have n0_ := Aside0.mk (Kd.R_lower ho6 (below_size (by repeat (first | (with_reducible first | exact HB.out | apply below_alloc | apply pw_below_drewN | apply below_drew1) | exact HB.out)))); have n1_ := Aside0.mk (below_step (by repeat (first | (with_reducible first | exact HB.out | apply below_alloc | apply pw_below_drewN | apply below_drew1) | exact HB.out)) hb); clear HB; have HO149 := n0_; have HB := n1_; clear n0_ n1_; clear hb ho6; obtain ⟨Ao7, co7, eo7⟩ := Kd.R_slice HO149.out; subst eo7) | ((with_reducible refine gate_dst (N := 20) rfl ?_); refine Kd.N_lit (Kd.slice 9 Kd.string) _ 90 ?hg (N' := 20) ?hd (xs := ([y147] : List (List ByteArray))) (inner := [.slice Ao7 y147.length co7]) (ok := (fun _ => True)) (okp := (fun _ => True)) ?hr ?hp (fun _ hk => hk) ((show ∀ k_, w5.heap.size ≤ k_ → (fun _ => True) k_ from fun k_ hk => trivial) _ (Nat.le_refl _)) (Below.refl _ _) (Nat.le_refl _) (by simp) ?_; (case hd => rfl); (case hg => rfl); (case hr => first | (go_simp; done) | (go_simp; rfl)); (case hp => exact (Reps.one (show Kd.FK (Kd.slice 9 Kd.string) _ _ y147 [.slice Ao7 y147.length co7] from (Kd.FK_slice_mk (Kd.R_reads' (Kd.R_mono (ok' := (fun _ => True)) (HO149.out) (fun k_ hk => trivial))).2.1 (Kd.R_F (Kd.R_mono (ok' := (fun _ => True)) (HO149.out) (fun k_ hk => trivial))))) (Reps.none _ _))); intro v151 w8 ho9 hb hg_ hnew_; clear hg_ hnew_; (first | rw [← Ny150.out] at ho9 | (simp only [Int.reduceToNat] at ho9; rw [← Ny150.out] at ho9)); have n0_ := Aside0.mk (Kd.N_lower ho9 (below_size (by repeat (first | (with_reducible first | exact HB.out | apply below_alloc | apply pw_below_drewN | apply below_drew1) | exact HB.out)))); have n1_ := Aside0.mk (below_step (by repeat (first | (with_reducible first | exact HB.out | apply below_alloc | apply pw_below_drewN | apply below_drew1) | exact HB.out)) hb); clear HB; clear HO149; have HO152 := n0_; have HB := n1_; clear n0_ n1_; clear hb ho9))
    go_loopg [6, 7, 8, 9] k (fun kq v6 v7 v8 v9 w' => ∃ (x6_1 : List Int) (x7_1 : List Int) (x8_1 : List (List ByteArray)) (x9_1 : Int), v9 = .int .i64 x9_1 ∧ Aside0 (daybookref17_Trial.l0 kq l0 a1 x6_1 x7_1 x8_1 x9_1 = some (r1, r2)) ∧ Aside0 (kq ≤ k) ∧ Aside0 (Kd.R (Kd.int .i64) 2 w' w.heap.size (fun k_ => some k_ ≠ (v7 : Value).ownBlock) v6 x6_1) ∧ Aside0 (Kd.R (Kd.int .i64) 2 w' w.heap.size (fun k_ => some k_ ≠ (v6 : Value).ownBlock) v7 x7_1) ∧ Aside0 (Kd.N (Kd.slice 9 Kd.string) 90 w' w.heap.size (fun k_ => some k_ ≠ (v6 : Value).ownBlock ∧ some k_ ≠ (v7 : Value).ownBlock) v8 x8_1) ∧ Aside0 (Below w.heap.size w w'))
    case atStart => exact ⟨(([] : List Int)), (([] : List Int)), (y150), (0), (by first | rfl | (simp; done) | (simp [*]; done)), H', ⟨Nat.le_refl _⟩, ⟨by first | exact Kd.R_nil _ _ _ _ _ | exact Kd.N_nil _ _ _ _ _ | exact Kd.V_nil _ _ _ _ _ | exact Kd.Q_nil _ _ _ _ _ | exact Kd.S_nil _ _ _ _ _⟩, ⟨by first | exact Kd.R_nil _ _ _ _ _ | exact Kd.N_nil _ _ _ _ _ | exact Kd.V_nil _ _ _ _ _ | exact Kd.Q_nil _ _ _ _ _ | exact Kd.S_nil _ _ _ _ _⟩, ⟨by (with_reducible repeat (first | apply Kd.N_alloc | apply Kd.N_drewN | apply Kd.N_drew)); exact Kd.N_mono HO152.out (fun _ hk => ⟨(by simp [Value.ownBlock]), (by simp [Value.ownBlock])⟩)⟩, ⟨by repeat (first | (with_reducible first | exact HB.out | apply below_alloc | apply pw_below_drewN | apply below_drew1) | exact HB.out)⟩⟩
    case round =>
      clear H'
      try clear c1
      try clear p2
      try clear c4
      obtain ⟨x6_1, x7_1, x8_1, x9_1, rfl, HA, HK1, HO_6, HO_7, HO_8, HB⟩ := hrel
      cases gk with
      | zero => exact absurd HA.out (by simp [daybookref17_Trial.l0])
      | succ k1 =>
        have H := HA.out
        clear HA
        simp only [daybookref17_Trial.l0] at H
        by_cases c10 : x9_1 < (l0.length : Int)
        · rw [if_pos c10] at H
          have c10b0 : decide (x9_1 < (l0.length : Int)) = true := decide_eq_true c10
          clear c10
          by_cases c11 : 0 ≤ x9_1
          · rw [if_pos c11] at H
            have c11b0 : decide (0 ≤ x9_1) = true := decide_eq_true c11
            clear c11
            replace H := Option.bind_eq_some_iff.mp H
            obtain ⟨t155, A120, H⟩ := H
            replace H : (if t155 = true then (if ((rd_T31 l0 x9_1).f1) < 0 then (daybookref17_Trial.j1 k1 l0 a1 x6_1 x7_1 x8_1 x9_1 true ((rd_T31 l0 x9_1).f0) ((rd_T31 l0 x9_1).f1) ((rd_T31 l0 x9_1).f2)) else (daybookref17_Trial.j1 k1 l0 a1 x6_1 x7_1 x8_1 x9_1 (decide (((rd_T31 l0 x9_1).f2) < 0)) ((rd_T31 l0 x9_1).f0) ((rd_T31 l0 x9_1).f1) ((rd_T31 l0 x9_1).f2))) else (some ((⟨#[]⟩ : ByteArray), 60))) = some (r1, r2) := H
            have A12 := Aside0.mk A120
            clear A120
            by_cases c13 : t155 = true
            · subst c13
              have H1 : (if ((rd_T31 l0 x9_1).f1) < 0 then (daybookref17_Trial.j1 k1 l0 a1 x6_1 x7_1 x8_1 x9_1 true ((rd_T31 l0 x9_1).f0) ((rd_T31 l0 x9_1).f1) ((rd_T31 l0 x9_1).f2)) else (daybookref17_Trial.j1 k1 l0 a1 x6_1 x7_1 x8_1 x9_1 (decide (((rd_T31 l0 x9_1).f2) < 0)) ((rd_T31 l0 x9_1).f0) ((rd_T31 l0 x9_1).f1) ((rd_T31 l0 x9_1).f2))) = some (r1, r2) := by rw [if_pos rfl] at H; exact H
              clear H
              have H := H1
              clear H1
              have HC14 := Aside0.mk H
              clear H
              have p153 : 0 ≤ (x9_1 : Int) := of_decide_eq_true (by first | (with_reducible assumption) | assumption)
              have q153 : x9_1 < (l0.length : Int) := of_decide_eq_true (by first | (with_reducible assumption) | assumption)
              obtain ⟨ad153, e153, hx153_0, hx153_1, hx153_2⟩ := at_T31 HR0.out x9_1 p153 q153
              cases e153
              replace hx153_0 := (HB.out.cell (World.block_lt_of_cell? w _ hx153_0)).trans hx153_0
              replace hx153_1 := (HB.out.cell (World.block_lt_of_cell? w _ hx153_1)).trans hx153_1
              replace hx153_2 := (HB.out.cell (World.block_lt_of_cell? w _ hx153_2)).trans hx153_2
              replace p153 := eq_true p153
              replace q153 := eq_true q153
              go_upto_region 11 with (first | ((with_reducible refine gate_dst (N := 10) rfl ?_); refine box_event ?hg (N := 10) ?hd (cs := #[.string (⟨#[]⟩ : ByteArray), .int .i64 0, .int .i64 0]) (t := 31) ?hr ?_; (case hd => rfl); (case hg => rfl); (case hr => first | (go_simp; done) | (go_simp; rfl)); intro gb154 hg w15 hbox hb; have n0_ := Aside0.mk (Kd.R_below (by (with_reducible repeat (first | apply Kd.R_alloc | apply Kd.R_drewN | apply Kd.R_drew)); exact HO_6.out) hb); have n1_ := Aside0.mk (Kd.R_below (by (with_reducible repeat (first | apply Kd.R_alloc | apply Kd.R_drewN | apply Kd.R_drew)); exact HO_7.out) hb); have n2_ := Aside0.mk (Kd.N_below (Kd.N_elderB (by (with_reducible repeat (first | apply Kd.N_alloc | apply Kd.N_drewN | apply Kd.N_drew)); exact HO_8.out) gb154 (Nat.le_of_eq hg.symm)) hb); have n3_ := Aside0.mk (below_step (by repeat (first | (with_reducible first | exact HB.out | apply below_alloc | apply pw_below_drewN | apply below_drew1) | exact HB.out)) hb); have n4_ := Aside0.mk (hbox); have n5_ := Aside0.mk ((by rw [hg]; exact (below_size (by repeat (first | (with_reducible first | exact HB.out | apply below_alloc | apply pw_below_drewN | apply below_drew1) | exact HB.out))) : w.heap.size ≤ gb154)); have n6_ := Aside0.mk ((by rw [hg]; exact (below_size (by repeat (first | (with_reducible first | exact HB.out | apply below_alloc | apply pw_below_drewN | apply below_drew1) | exact HB.out))) : w.heap.size ≤ gb154)); clear HO_6; clear HO_7; clear HO_8; clear HB; have HO_6 := n0_; have HO_7 := n1_; have HO_8 := n2_; have HB := n3_; have BK154 := n4_; have GW154 := n5_; have GE154 := n6_; clear n0_ n1_ n2_ n3_ n4_ n5_ n6_; clear hb hbox hg; have hcz16_0 : w15.cell? ⟨gb154, 0, none⟩ = some (.string (⟨#[]⟩ : ByteArray)) := (blk_cell BK154.out 0).trans rfl; have hcz16_1 : w15.cell? ⟨gb154, 1, none⟩ = some (.int .i64 0) := (blk_cell BK154.out 1).trans rfl; have hcz16_2 : w15.cell? ⟨gb154, 2, none⟩ = some (.int .i64 0) := (blk_cell BK154.out 2).trans rfl; have hfz16_0 := blk_frozen BK154.out 0; have hfz16_1 := blk_frozen BK154.out 1; have hfz16_2 := blk_frozen BK154.out 2) | ((with_reducible refine gate_callee (f := 49) rfl ?_); refine goesL_ (some 33) rfl rfl Tryz.func49 (by kernel_rfl) rfl #[.string ((rd_T31 l0 x9_1).f0)] rfl (by (try simp only [List.map_toArray, List.map_cons, List.map_nil]); first | done | rfl | (simp only [List.length_drop, List.length_take]; rfl)) ?_; (with_reducible refine (daybookref05_Name.calls k1 ((rd_T31 l0 x9_1).f0) true _ A12.out).mono ?_); rintro e w' ⟨rfl, ⟨nd, rfl⟩⟩; refine ⟨_, rfl, ?_⟩))
              (try simp only [Act.put, List.setIfInBounds_toArray, List.set_cons_zero, List.set_cons_succ])
              go_cut [42] (fun v42 wc => ∃ (kq : Nat) (x42_13 : Bool), v42 = .bool x42_13 ∧ Aside0 (daybookref17_Trial.j1 kq l0 a1 x6_1 x7_1 x8_1 x9_1 x42_13 ((rd_T31 l0 x9_1).f0) ((rd_T31 l0 x9_1).f1) ((rd_T31 l0 x9_1).f2) = some (r1, r2)) ∧ Aside0 (kq ≤ k1) ∧ Aside0 (Kd.R (Kd.int .i64) 2 wc w.heap.size (fun k_ => some k_ ≠ (u7 : Value).ownBlock) u6 x6_1) ∧ Aside0 (Kd.R (Kd.int .i64) 2 wc w.heap.size (fun k_ => some k_ ≠ (u6 : Value).ownBlock) u7 x7_1) ∧ Aside0 (Kd.N (Kd.slice 9 Kd.string) 90 wc w.heap.size (fun k_ => some k_ ≠ (u6 : Value).ownBlock ∧ some k_ ≠ (u7 : Value).ownBlock ∧ k_ ≠ gb154) u8 x8_1) ∧ Aside0 (wc.heap[gb154]? = some (.cells #[.string ((rd_T31 l0 x9_1).f0), .int .i64 ((rd_T31 l0 x9_1).f1), .int .i64 ((rd_T31 l0 x9_1).f2)] 31 (0, 0))) ∧ Aside0 (Below w.heap.size w wc))
              case first =>
                have H := HC14.out
                clear HC14
                by_cases c17 : ((rd_T31 l0 x9_1).f1) < 0
                · rw [if_pos c17] at H
                  have c17b0 : decide (((rd_T31 l0 x9_1).f1) < 0) = true := decide_eq_true c17
                  clear c17
                  (first | rw [c17b0] | (simp only [i64_w, i32_w]; rw [c17b0]) | skip)
                  have H' := Aside0.mk H
                  clear H
                  have hcz18_0 : w15.cell? ⟨gb154, 0, none⟩ = some (.string (⟨#[]⟩ : ByteArray)) := (blk_cell BK154.out 0).trans rfl
                  have hcz18_1 : w15.cell? ⟨gb154, 1, none⟩ = some (.int .i64 0) := (blk_cell BK154.out 1).trans rfl
                  have hcz18_2 : w15.cell? ⟨gb154, 2, none⟩ = some (.int .i64 0) := (blk_cell BK154.out 2).trans rfl
                  have hfz18_0 := blk_frozen BK154.out 0
                  have hfz18_1 := blk_frozen BK154.out 1
                  have hfz18_2 := blk_frozen BK154.out 2
                  go_wp2
                  go_meet
                  case rel => exact ⟨_, (true), (by first | rfl | (simp; done) | (simp [*]; done)), H', ⟨by have := HK1.out; first | omega | exact Nat.le_refl _⟩, ⟨by (with_reducible repeat (first | apply Kd.R_alloc | apply Kd.R_drewN | apply Kd.R_drew)); exact Kd.R_mono (Kd.R_far (p := ⟨gb154, 2, none⟩) (Kd.R_far (p := ⟨gb154, 1, none⟩) (Kd.R_far (p := ⟨gb154, 0, none⟩) (Kd.R_types HO_6.out BK154.out (by decide)) (fun _ hk => hk.2) (.string ((rd_T31 l0 x9_1).f0))) (fun _ hk => hk.2) (.int .i64 ((rd_T31 l0 x9_1).f1))) (fun _ hk => hk.2) (.int .i64 ((rd_T31 l0 x9_1).f2))) (fun _ hk => hk.1)⟩, ⟨by (with_reducible repeat (first | apply Kd.R_alloc | apply Kd.R_drewN | apply Kd.R_drew)); exact Kd.R_mono (Kd.R_far (p := ⟨gb154, 2, none⟩) (Kd.R_far (p := ⟨gb154, 1, none⟩) (Kd.R_far (p := ⟨gb154, 0, none⟩) (Kd.R_types HO_7.out BK154.out (by decide)) (fun _ hk => hk.2) (.string ((rd_T31 l0 x9_1).f0))) (fun _ hk => hk.2) (.int .i64 ((rd_T31 l0 x9_1).f1))) (fun _ hk => hk.2) (.int .i64 ((rd_T31 l0 x9_1).f2))) (fun _ hk => hk.1)⟩, ⟨by (with_reducible repeat (first | apply Kd.N_alloc | apply Kd.N_drewN | apply Kd.N_drew)); exact Kd.N_mono (Kd.N_far (p := ⟨gb154, 2, none⟩) (Kd.N_far (p := ⟨gb154, 1, none⟩) (Kd.N_far (p := ⟨gb154, 0, none⟩) (Kd.N_mono HO_8.out (fun k_ hk => (⟨hk, hk.2⟩ : _ ∧ k_ ≠ gb154))) (fun _ hk => hk.2) (.string ((rd_T31 l0 x9_1).f0))) (fun _ hk => hk.2) (.int .i64 ((rd_T31 l0 x9_1).f1))) (fun _ hk => hk.2) (.int .i64 ((rd_T31 l0 x9_1).f2))) (fun _ hk => ⟨hk.1.1.1, ⟨hk.1.1.2, hk.1.2⟩⟩)⟩, ⟨by (with_reducible repeat (first | refine blk_drewN ?_ _ | refine blk_drew ?_ | refine blk_alloc ?_ _)); refine blk_put (cs := #[.string ((rd_T31 l0 x9_1).f0), .int .i64 ((rd_T31 l0 x9_1).f1), .int .i64 0]) ?_ 2 _ rfl; (with_reducible repeat (first | refine blk_drewN ?_ _ | refine blk_drew ?_ | refine blk_alloc ?_ _)); refine blk_put (cs := #[.string ((rd_T31 l0 x9_1).f0), .int .i64 0, .int .i64 0]) ?_ 1 _ rfl; (with_reducible repeat (first | refine blk_drewN ?_ _ | refine blk_drew ?_ | refine blk_alloc ?_ _)); refine blk_put (cs := #[.string (⟨#[]⟩ : ByteArray), .int .i64 0, .int .i64 0]) ?_ 0 _ rfl; (with_reducible repeat (first | refine blk_drewN ?_ _ | refine blk_drew ?_ | refine blk_alloc ?_ _)); exact BK154.out⟩, ⟨by repeat (first | (with_reducible first | exact HB.out | apply below_alloc | apply pw_below_drewN | apply below_drew1 | refine below_set ?_ GE154.out) | exact HB.out)⟩⟩
                · rw [if_neg c17] at H
                  have c17b0 : decide (((rd_T31 l0 x9_1).f1) < 0) = false := decide_eq_false c17
                  clear c17
                  (first | rw [c17b0] | (simp only [i64_w, i32_w]; rw [c17b0]) | skip)
                  have H' := Aside0.mk H
                  clear H
                  have hcz19_0 : w15.cell? ⟨gb154, 0, none⟩ = some (.string (⟨#[]⟩ : ByteArray)) := (blk_cell BK154.out 0).trans rfl
                  have hcz19_1 : w15.cell? ⟨gb154, 1, none⟩ = some (.int .i64 0) := (blk_cell BK154.out 1).trans rfl
                  have hcz19_2 : w15.cell? ⟨gb154, 2, none⟩ = some (.int .i64 0) := (blk_cell BK154.out 2).trans rfl
                  have hfz19_0 := blk_frozen BK154.out 0
                  have hfz19_1 := blk_frozen BK154.out 1
                  have hfz19_2 := blk_frozen BK154.out 2
                  go_wp2
                  go_meet
                  case rel => exact ⟨_, (decide (((rd_T31 l0 x9_1).f2) < 0)), (by first | rfl | (simp; done) | (simp [*]; done)), H', ⟨by have := HK1.out; first | omega | exact Nat.le_refl _⟩, ⟨by (with_reducible repeat (first | apply Kd.R_alloc | apply Kd.R_drewN | apply Kd.R_drew)); exact Kd.R_mono (Kd.R_far (p := ⟨gb154, 2, none⟩) (Kd.R_far (p := ⟨gb154, 1, none⟩) (Kd.R_far (p := ⟨gb154, 0, none⟩) (Kd.R_types HO_6.out BK154.out (by decide)) (fun _ hk => hk.2) (.string ((rd_T31 l0 x9_1).f0))) (fun _ hk => hk.2) (.int .i64 ((rd_T31 l0 x9_1).f1))) (fun _ hk => hk.2) (.int .i64 ((rd_T31 l0 x9_1).f2))) (fun _ hk => hk.1)⟩, ⟨by (with_reducible repeat (first | apply Kd.R_alloc | apply Kd.R_drewN | apply Kd.R_drew)); exact Kd.R_mono (Kd.R_far (p := ⟨gb154, 2, none⟩) (Kd.R_far (p := ⟨gb154, 1, none⟩) (Kd.R_far (p := ⟨gb154, 0, none⟩) (Kd.R_types HO_7.out BK154.out (by decide)) (fun _ hk => hk.2) (.string ((rd_T31 l0 x9_1).f0))) (fun _ hk => hk.2) (.int .i64 ((rd_T31 l0 x9_1).f1))) (fun _ hk => hk.2) (.int .i64 ((rd_T31 l0 x9_1).f2))) (fun _ hk => hk.1)⟩, ⟨by (with_reducible repeat (first | apply Kd.N_alloc | apply Kd.N_drewN | apply Kd.N_drew)); exact Kd.N_mono (Kd.N_far (p := ⟨gb154, 2, none⟩) (Kd.N_far (p := ⟨gb154, 1, none⟩) (Kd.N_far (p := ⟨gb154, 0, none⟩) (Kd.N_mono HO_8.out (fun k_ hk => (⟨hk, hk.2⟩ : _ ∧ k_ ≠ gb154))) (fun _ hk => hk.2) (.string ((rd_T31 l0 x9_1).f0))) (fun _ hk => hk.2) (.int .i64 ((rd_T31 l0 x9_1).f1))) (fun _ hk => hk.2) (.int .i64 ((rd_T31 l0 x9_1).f2))) (fun _ hk => ⟨hk.1.1.1, ⟨hk.1.1.2, hk.1.2⟩⟩)⟩, ⟨by (with_reducible repeat (first | refine blk_drewN ?_ _ | refine blk_drew ?_ | refine blk_alloc ?_ _)); refine blk_put (cs := #[.string ((rd_T31 l0 x9_1).f0), .int .i64 ((rd_T31 l0 x9_1).f1), .int .i64 0]) ?_ 2 _ rfl; (with_reducible repeat (first | refine blk_drewN ?_ _ | refine blk_drew ?_ | refine blk_alloc ?_ _)); refine blk_put (cs := #[.string ((rd_T31 l0 x9_1).f0), .int .i64 0, .int .i64 0]) ?_ 1 _ rfl; (with_reducible repeat (first | refine blk_drewN ?_ _ | refine blk_drew ?_ | refine blk_alloc ?_ _)); refine blk_put (cs := #[.string (⟨#[]⟩ : ByteArray), .int .i64 0, .int .i64 0]) ?_ 0 _ rfl; (with_reducible repeat (first | refine blk_drewN ?_ _ | refine blk_drew ?_ | refine blk_alloc ?_ _)); exact BK154.out⟩, ⟨by repeat (first | (with_reducible first | exact HB.out | apply below_alloc | apply pw_below_drewN | apply below_drew1 | refine below_set ?_ GE154.out) | exact HB.out)⟩⟩
              case rest =>
                clear HC14
                try clear c1
                try clear p1
                try clear q1
                try clear hx1
                try clear p2
                try clear c4
                try clear c10
                try clear c10b0
                try clear c11
                try clear c11b0
                try clear c13
                try clear p15
                try clear q15
                try clear hx15
                try clear c17
                try clear c17b0
                try clear hcz16_0
                try clear hcz16_1
                try clear hcz16_2
                try clear hcz18_0
                try clear hcz18_1
                try clear hcz18_2
                try clear hcz19_0
                try clear hcz19_1
                try clear hcz19_2
                try clear hfz16_0
                try clear hfz16_1
                try clear hfz16_2
                try clear hfz18_0
                try clear hfz18_1
                try clear hfz18_2
                try clear hfz19_0
                try clear hfz19_1
                try clear hfz19_2
                try clear hx153_0
                try clear hx153_1
                try clear hx153_2
                try clear p153
                try clear p2
                try clear q153
                obtain ⟨kq, x42_13, rfl, HA, HJ13, HO_6, HO_7, HO_8, BK154, HB⟩ := hcut
                cases kq with
                | zero => exact absurd HA.out (by simp [daybookref17_Trial.j1])
                | succ kj13 =>
                  have H := HA.out
                  clear HA
                  simp only [daybookref17_Trial.j1] at H
                  by_cases c20 : x42_13 = true
                  · subst c20
                    have H1 : (some ((⟨#[]⟩ : ByteArray), 10)) = some (r1, r2) := by rw [if_pos rfl] at H; exact H
                    clear H
                    have H := H1
                    clear H1
                    simp only [Option.some.injEq, Prod.mk.injEq] at H
                    obtain ⟨rfl, rfl⟩ := H
                    go_wp2
                    go_ret2
                    exact ⟨by first | rfl | (simp [errW_none, errW_some] <;> rfl) | (simp [*, errW_none, errW_some] <;> rfl), by repeat (first | (with_reducible first | exact HB.out | apply below_alloc | apply pw_below_drewN | apply below_drew1 | refine below_set ?_ GE154.out) | exact HB.out)⟩
                  · replace c20 := Bool.eq_false_iff.mpr c20
                    subst c20
                    have H1 : (if x6_1.length < 17592186044416 then ((some (x6_1 ++ [((rd_T31 l0 x9_1).f1)] : List Int)).bind fun y156 => (if x7_1.length < 17592186044416 then ((some (x7_1 ++ [((rd_T31 l0 x9_1).f2)] : List Int)).bind fun y159 => ((some (([((rd_T31 l0 x9_1).f0), (⟨#[]⟩ : ByteArray), (⟨#[]⟩ : ByteArray)] : List ByteArray) : List ByteArray)).bind fun y162 => (if ((rd_T31 l0 x9_1).f1) > 0 then ((daybookref17_money.f kj13 ((rd_T31 l0 x9_1).f1) a1).bind fun t165 => (if 1 < (y162.length : Int) then ((some (y162.set (1 : Int).toNat t165 : List ByteArray)).bind fun y166 => (if ((rd_T31 l0 x9_1).f2) > 0 then ((daybookref17_money.f kj13 ((rd_T31 l0 x9_1).f2) a1).bind fun t167 => (if 2 < (y162.length : Int) then (if x8_1.length < 5864062014805 then (daybookref17_Trial.l0 kj13 l0 a1 y156 y159 (x8_1 ++ [(y166.set (2 : Int).toNat t167)]) (wrap64 (x9_1 + 1))) else (none)) else (none))) else (if x8_1.length < 5864062014805 then (daybookref17_Trial.l0 kj13 l0 a1 y156 y159 (x8_1 ++ [y166]) (wrap64 (x9_1 + 1))) else (none)))) else (none))) else (if ((rd_T31 l0 x9_1).f2) > 0 then ((daybookref17_money.f kj13 ((rd_T31 l0 x9_1).f2) a1).bind fun t175 => (if 2 < (y162.length : Int) then (if x8_1.length < 5864062014805 then (daybookref17_Trial.l0 kj13 l0 a1 y156 y159 (x8_1 ++ [(y162.set (2 : Int).toNat t175)]) (wrap64 (x9_1 + 1))) else (none)) else (none))) else (if x8_1.length < 5864062014805 then (daybookref17_Trial.l0 kj13 l0 a1 y156 y159 (x8_1 ++ [y162]) (wrap64 (x9_1 + 1))) else (none)))))) else (none))) else (none)) = some (r1, r2) := by rw [if_neg (show ¬ (false = true) by decide)] at H; exact H
                    clear H
                    have H := H1
                    clear H1
                    by_cases c21 : x6_1.length < 17592186044416
                    · rw [if_pos c21] at H
                      have LMc21 := Aside0.mk c21
                      clear c21
                      obtain ⟨y156, hy156⟩ : ∃ y_ : List Int, y_ = (x6_1 ++ [((rd_T31 l0 x9_1).f1)]) := ⟨_, rfl⟩
                      replace H : (if x7_1.length < 17592186044416 then ((some (x7_1 ++ [((rd_T31 l0 x9_1).f2)] : List Int)).bind fun y159 => ((some (([((rd_T31 l0 x9_1).f0), (⟨#[]⟩ : ByteArray), (⟨#[]⟩ : ByteArray)] : List ByteArray) : List ByteArray)).bind fun y162 => (if ((rd_T31 l0 x9_1).f1) > 0 then ((daybookref17_money.f kj13 ((rd_T31 l0 x9_1).f1) a1).bind fun t165 => (if 1 < (y162.length : Int) then ((some (y162.set (1 : Int).toNat t165 : List ByteArray)).bind fun y166 => (if ((rd_T31 l0 x9_1).f2) > 0 then ((daybookref17_money.f kj13 ((rd_T31 l0 x9_1).f2) a1).bind fun t167 => (if 2 < (y162.length : Int) then (if x8_1.length < 5864062014805 then (daybookref17_Trial.l0 kj13 l0 a1 y156 y159 (x8_1 ++ [(y166.set (2 : Int).toNat t167)]) (wrap64 (x9_1 + 1))) else (none)) else (none))) else (if x8_1.length < 5864062014805 then (daybookref17_Trial.l0 kj13 l0 a1 y156 y159 (x8_1 ++ [y166]) (wrap64 (x9_1 + 1))) else (none)))) else (none))) else (if ((rd_T31 l0 x9_1).f2) > 0 then ((daybookref17_money.f kj13 ((rd_T31 l0 x9_1).f2) a1).bind fun t175 => (if 2 < (y162.length : Int) then (if x8_1.length < 5864062014805 then (daybookref17_Trial.l0 kj13 l0 a1 y156 y159 (x8_1 ++ [(y162.set (2 : Int).toNat t175)]) (wrap64 (x9_1 + 1))) else (none)) else (none))) else (if x8_1.length < 5864062014805 then (daybookref17_Trial.l0 kj13 l0 a1 y156 y159 (x8_1 ++ [y162]) (wrap64 (x9_1 + 1))) else (none)))))) else (none)) = some (r1, r2) := by first | (rw [hy156]; with_reducible exact H) | (have H2_ := (Option.bind_some _ _).symm.trans H; rw [hy156]; with_reducible exact H2_) | (have H2_ := (Option.bind_some _ _).symm.trans H; with_reducible exact H2_) | with_reducible exact H | (rw [hy156]; exact H) | exact H
                      have Ny156 := Aside0.mk hy156
                      clear hy156
                      by_cases c22 : x7_1.length < 17592186044416
                      · rw [if_pos c22] at H
                        have LMc22 := Aside0.mk c22
                        clear c22
                        obtain ⟨y159, hy159⟩ : ∃ y_ : List Int, y_ = (x7_1 ++ [((rd_T31 l0 x9_1).f2)]) := ⟨_, rfl⟩
                        replace H : ((some (([((rd_T31 l0 x9_1).f0), (⟨#[]⟩ : ByteArray), (⟨#[]⟩ : ByteArray)] : List ByteArray) : List ByteArray)).bind fun y162 => (if ((rd_T31 l0 x9_1).f1) > 0 then ((daybookref17_money.f kj13 ((rd_T31 l0 x9_1).f1) a1).bind fun t165 => (if 1 < (y162.length : Int) then ((some (y162.set (1 : Int).toNat t165 : List ByteArray)).bind fun y166 => (if ((rd_T31 l0 x9_1).f2) > 0 then ((daybookref17_money.f kj13 ((rd_T31 l0 x9_1).f2) a1).bind fun t167 => (if 2 < (y162.length : Int) then (if x8_1.length < 5864062014805 then (daybookref17_Trial.l0 kj13 l0 a1 y156 y159 (x8_1 ++ [(y166.set (2 : Int).toNat t167)]) (wrap64 (x9_1 + 1))) else (none)) else (none))) else (if x8_1.length < 5864062014805 then (daybookref17_Trial.l0 kj13 l0 a1 y156 y159 (x8_1 ++ [y166]) (wrap64 (x9_1 + 1))) else (none)))) else (none))) else (if ((rd_T31 l0 x9_1).f2) > 0 then ((daybookref17_money.f kj13 ((rd_T31 l0 x9_1).f2) a1).bind fun t175 => (if 2 < (y162.length : Int) then (if x8_1.length < 5864062014805 then (daybookref17_Trial.l0 kj13 l0 a1 y156 y159 (x8_1 ++ [(y162.set (2 : Int).toNat t175)]) (wrap64 (x9_1 + 1))) else (none)) else (none))) else (if x8_1.length < 5864062014805 then (daybookref17_Trial.l0 kj13 l0 a1 y156 y159 (x8_1 ++ [y162]) (wrap64 (x9_1 + 1))) else (none))))) = some (r1, r2) := by first | (rw [hy159]; with_reducible exact H) | (have H2_ := (Option.bind_some _ _).symm.trans H; rw [hy159]; with_reducible exact H2_) | (have H2_ := (Option.bind_some _ _).symm.trans H; with_reducible exact H2_) | with_reducible exact H | (rw [hy159]; exact H) | exact H
                        have Ny159 := Aside0.mk hy159
                        clear hy159
                        obtain ⟨y162, hy162⟩ : ∃ y_ : List ByteArray, y_ = (([((rd_T31 l0 x9_1).f0), (⟨#[]⟩ : ByteArray), (⟨#[]⟩ : ByteArray)] : List ByteArray)) := ⟨_, rfl⟩
                        replace H : (if ((rd_T31 l0 x9_1).f1) > 0 then ((daybookref17_money.f kj13 ((rd_T31 l0 x9_1).f1) a1).bind fun t165 => (if 1 < (y162.length : Int) then ((some (y162.set (1 : Int).toNat t165 : List ByteArray)).bind fun y166 => (if ((rd_T31 l0 x9_1).f2) > 0 then ((daybookref17_money.f kj13 ((rd_T31 l0 x9_1).f2) a1).bind fun t167 => (if 2 < (y162.length : Int) then (if x8_1.length < 5864062014805 then (daybookref17_Trial.l0 kj13 l0 a1 y156 y159 (x8_1 ++ [(y166.set (2 : Int).toNat t167)]) (wrap64 (x9_1 + 1))) else (none)) else (none))) else (if x8_1.length < 5864062014805 then (daybookref17_Trial.l0 kj13 l0 a1 y156 y159 (x8_1 ++ [y166]) (wrap64 (x9_1 + 1))) else (none)))) else (none))) else (if ((rd_T31 l0 x9_1).f2) > 0 then ((daybookref17_money.f kj13 ((rd_T31 l0 x9_1).f2) a1).bind fun t175 => (if 2 < (y162.length : Int) then (if x8_1.length < 5864062014805 then (daybookref17_Trial.l0 kj13 l0 a1 y156 y159 (x8_1 ++ [(y162.set (2 : Int).toNat t175)]) (wrap64 (x9_1 + 1))) else (none)) else (none))) else (if x8_1.length < 5864062014805 then (daybookref17_Trial.l0 kj13 l0 a1 y156 y159 (x8_1 ++ [y162]) (wrap64 (x9_1 + 1))) else (none)))) = some (r1, r2) := by first | (rw [hy162]; with_reducible exact H) | (have H2_ := (Option.bind_some _ _).symm.trans H; rw [hy162]; with_reducible exact H2_) | (have H2_ := (Option.bind_some _ _).symm.trans H; with_reducible exact H2_) | with_reducible exact H | (rw [hy162]; exact H) | exact H
                        have Ny162 := Aside0.mk hy162
                        clear hy162
                        by_cases c23 : ((rd_T31 l0 x9_1).f1) > 0
                        · rw [if_pos c23] at H
                          have c23b0 : decide (0 < ((rd_T31 l0 x9_1).f1)) = true := decide_eq_true c23
                          clear c23
                          replace H := Option.bind_eq_some_iff.mp H
                          obtain ⟨t165, A240, H⟩ := H
                          replace H : (if 1 < (y162.length : Int) then ((some (y162.set (1 : Int).toNat t165 : List ByteArray)).bind fun y166 => (if ((rd_T31 l0 x9_1).f2) > 0 then ((daybookref17_money.f kj13 ((rd_T31 l0 x9_1).f2) a1).bind fun t167 => (if 2 < (y162.length : Int) then (if x8_1.length < 5864062014805 then (daybookref17_Trial.l0 kj13 l0 a1 y156 y159 (x8_1 ++ [(y166.set (2 : Int).toNat t167)]) (wrap64 (x9_1 + 1))) else (none)) else (none))) else (if x8_1.length < 5864062014805 then (daybookref17_Trial.l0 kj13 l0 a1 y156 y159 (x8_1 ++ [y166]) (wrap64 (x9_1 + 1))) else (none)))) else (none)) = some (r1, r2) := H
                          have A24 := Aside0.mk A240
                          clear A240
                          by_cases c25 : 1 < (y162.length : Int)
                          · rw [if_pos c25] at H
                            have c25b0 : decide (1 < (y162.length : Int)) = true := decide_eq_true c25
                            have c25b1 : decide (1 < y162.length) = true := decide_eq_true (by omega)
                            clear c25
                            obtain ⟨y166, hy166⟩ : ∃ y_ : List ByteArray, y_ = (y162.set (1 : Int).toNat t165) := ⟨_, rfl⟩
                            replace H : (if ((rd_T31 l0 x9_1).f2) > 0 then ((daybookref17_money.f kj13 ((rd_T31 l0 x9_1).f2) a1).bind fun t167 => (if 2 < (y162.length : Int) then (if x8_1.length < 5864062014805 then (daybookref17_Trial.l0 kj13 l0 a1 y156 y159 (x8_1 ++ [(y166.set (2 : Int).toNat t167)]) (wrap64 (x9_1 + 1))) else (none)) else (none))) else (if x8_1.length < 5864062014805 then (daybookref17_Trial.l0 kj13 l0 a1 y156 y159 (x8_1 ++ [y166]) (wrap64 (x9_1 + 1))) else (none))) = some (r1, r2) := by first | (rw [hy166]; with_reducible exact H) | (have H2_ := (Option.bind_some _ _).symm.trans H; rw [hy166]; with_reducible exact H2_) | (have H2_ := (Option.bind_some _ _).symm.trans H; with_reducible exact H2_) | with_reducible exact H | (rw [hy166]; exact H) | exact H
                            have Ny166 := Aside0.mk hy166
                            clear hy166
                            by_cases c27 : ((rd_T31 l0 x9_1).f2) > 0
                            · rw [if_pos c27] at H
                              have c27b0 : decide (0 < ((rd_T31 l0 x9_1).f2)) = true := decide_eq_true c27
                              clear c27
                              replace H := Option.bind_eq_some_iff.mp H
                              obtain ⟨t167, A280, H⟩ := H
                              replace H : (if 2 < (y162.length : Int) then (if x8_1.length < 5864062014805 then (daybookref17_Trial.l0 kj13 l0 a1 y156 y159 (x8_1 ++ [(y166.set (2 : Int).toNat t167)]) (wrap64 (x9_1 + 1))) else (none)) else (none)) = some (r1, r2) := H
                              have A28 := Aside0.mk A280
                              clear A280
                              by_cases c29 : 2 < (y162.length : Int)
                              · rw [if_pos c29] at H
                                have c29b0 : decide (2 < (y162.length : Int)) = true := decide_eq_true c29
                                have c29b1 : decide (2 < y162.length) = true := decide_eq_true (by omega)
                                clear c29
                                obtain ⟨y168, hy168⟩ : ∃ y_ : List ByteArray, y_ = (y166.set (2 : Int).toNat t167) := ⟨_, rfl⟩
                                replace H : (if x8_1.length < 5864062014805 then (daybookref17_Trial.l0 kj13 l0 a1 y156 y159 (x8_1 ++ [y168]) (wrap64 (x9_1 + 1))) else (none)) = some (r1, r2) := by first | (rw [hy168]; with_reducible exact H) | (have H2_ := (Option.bind_some _ _).symm.trans H; rw [hy168]; with_reducible exact H2_) | (have H2_ := (Option.bind_some _ _).symm.trans H; with_reducible exact H2_) | with_reducible exact H | (rw [hy168]; exact H) | exact H
                                have Ny168 := Aside0.mk hy168
                                clear hy168
                                by_cases c31 : x8_1.length < 5864062014805
                                · rw [if_pos c31] at H
                                  have LMc31 := Aside0.mk c31
                                  clear c31
                                  obtain ⟨y169, hy169⟩ : ∃ y_ : List (List ByteArray), y_ = (x8_1 ++ [y168]) := ⟨_, rfl⟩
                                  replace H : (daybookref17_Trial.l0 kj13 l0 a1 y156 y159 y169 (wrap64 (x9_1 + 1))) = some (r1, r2) := by first | (rw [hy169]; with_reducible exact H) | (have H2_ := (Option.bind_some _ _).symm.trans H; rw [hy169]; with_reducible exact H2_) | (have H2_ := (Option.bind_some _ _).symm.trans H; with_reducible exact H2_) | with_reducible exact H | (rw [hy169]; exact H) | exact H
                                  have Ny169 := Aside0.mk hy169
                                  clear hy169
                                  have H' := Aside0.mk H
                                  clear H
                                  have hcz32_0 : wc.cell? ⟨gb154, 0, none⟩ = some (.string ((rd_T31 l0 x9_1).f0)) := (blk_cell BK154.out 0).trans rfl
                                  have hcz32_1 : wc.cell? ⟨gb154, 1, none⟩ = some (.int .i64 ((rd_T31 l0 x9_1).f1)) := (blk_cell BK154.out 1).trans rfl
                                  have hcz32_2 : wc.cell? ⟨gb154, 2, none⟩ = some (.int .i64 ((rd_T31 l0 x9_1).f2)) := (blk_cell BK154.out 2).trans rfl
                                  have hfz32_0 := blk_frozen BK154.out 0
                                  have hfz32_1 := blk_frozen BK154.out 1
                                  have hfz32_2 := blk_frozen BK154.out 2
                                  go_wp2_with (first | ((with_reducible refine gate_builtin (b := .append) (xs := #[.tmp 43, .tmp 46]) rfl ?_); at_builtin; refine Kd.R_append (Kd.int .i64) (w0 := w) w.heap.size rfl (.tmp 43) (.tmp 46) 78 2 (.int .i64 0) 8 rfl Tryz.underlying78 info2 rfl (by decide) (by omega) u6 x6_1 ((rd_T31 l0 x9_1).f1) [.int .i64 ((rd_T31 l0 x9_1).f1)] (fun k_ => some k_ ≠ (u7 : Value).ownBlock) (fun _ => False) rfl rfl ?aP (fun _ hk => hk.elim) ?aF ?aO ?aB ?aS ?aL ?_; (case aP => exact rfl); (case aB => exact (by repeat (first | (with_reducible first | exact HB.out | apply below_alloc | apply pw_below_drewN | apply below_drew1 | refine below_set ?_ GE154.out) | exact HB.out))); (case aF => exact (fun k_ hk => Kd.fresh' (Kd.R_lt (by (with_reducible repeat (first | apply Kd.R_alloc | apply Kd.R_drewN | apply Kd.R_drew)); exact HO_7.out)) k_ hk)); (case aO => exact (by (with_reducible repeat (first | apply Kd.R_alloc | apply Kd.R_drewN | apply Kd.R_drew)); exact HO_6.out)); (case aS => exact (below_size (by repeat (first | (with_reducible first | exact HB.out | apply below_alloc | apply pw_below_drewN | apply below_drew1 | refine below_set ?_ GE154.out) | exact HB.out)))); (case aL => have := LMc21.out; omega); intro v157 w33 ho hb hg hat; rw [← Ny156.out] at ho; have n0_ := Aside0.mk (Kd.R_after (ok := (fun _ => True)) (by (with_reducible repeat (first | apply Kd.R_alloc | apply Kd.R_drewN | apply Kd.R_drew)); exact Kd.R_mono HO_7.out (fun _ hk => ⟨trivial, hk⟩)) hg hat); have n1_ := Aside0.mk (Kd.N_afterv (ok := (fun k_ => some k_ ≠ (u7 : Value).ownBlock ∧ k_ ≠ gb154)) (by (with_reducible repeat (first | apply Kd.N_alloc | apply Kd.N_drewN | apply Kd.N_drew)); exact Kd.N_mono HO_8.out (fun _ hk => ⟨⟨hk.2.1, hk.2.2⟩, hk.1⟩)) hg hat); have n2_ := Aside0.mk (blk_grown (g := gb154) (o := .cells #[.string ((rd_T31 l0 x9_1).f0), .int .i64 ((rd_T31 l0 x9_1).f1), .int .i64 ((rd_T31 l0 x9_1).f2)] 31 (0, 0)) (by (with_reducible repeat (first | refine blk_drewN ?_ _ | refine blk_drew ?_ | refine blk_alloc ?_ _)); exact BK154.out) hg (Kd.R_ne HO_6.out BK154.out (by decide))); have n3_ := Aside0.mk (hb); have n4_ := Aside0.mk (ho); clear HO_7; clear HO_8; clear BK154; clear HB; clear HO_6; have HO_7 := n0_; have HO_8 := n1_; have BK154 := n2_; have HB := n3_; have HO158 := n4_; clear n0_ n1_ n2_ n3_ n4_; clear ho hb hg hat; have hcz34_0 : w33.cell? ⟨gb154, 0, none⟩ = some (.string ((rd_T31 l0 x9_1).f0)) := (blk_cell BK154.out 0).trans rfl; have hcz34_1 : w33.cell? ⟨gb154, 1, none⟩ = some (.int .i64 ((rd_T31 l0 x9_1).f1)) := (blk_cell BK154.out 1).trans rfl; have hcz34_2 : w33.cell? ⟨gb154, 2, none⟩ = some (.int .i64 ((rd_T31 l0 x9_1).f2)) := (blk_cell BK154.out 2).trans rfl; have hfz34_0 := blk_frozen BK154.out 0; have hfz34_1 := blk_frozen BK154.out 1; have hfz34_2 := blk_frozen BK154.out 2) | ((with_reducible refine gate_builtin (b := .append) (xs := #[.tmp 48, .tmp 51]) rfl ?_); at_builtin; refine Kd.R_append (Kd.int .i64) (w0 := w) w.heap.size rfl (.tmp 48) (.tmp 51) 78 2 (.int .i64 0) 8 rfl Tryz.underlying78 info2 rfl (by decide) (by omega) u7 x7_1 ((rd_T31 l0 x9_1).f2) [.int .i64 ((rd_T31 l0 x9_1).f2)] (fun k_ => some k_ ≠ (v157 : Value).ownBlock) (fun _ => False) rfl rfl ?aP (fun _ hk => hk.elim) ?aF ?aO ?aB ?aS ?aL ?_; (case aP => exact rfl); (case aB => exact (by repeat (first | (with_reducible first | exact HB.out | apply below_alloc | apply pw_below_drewN | apply below_drew1 | refine below_set ?_ GE154.out) | exact HB.out))); (case aF => exact (fun k_ hk => Kd.fresh' (Kd.R_lt (by (with_reducible repeat (first | apply Kd.R_alloc | apply Kd.R_drewN | apply Kd.R_drew)); exact HO158.out)) k_ hk)); (case aO => exact (by (with_reducible repeat (first | apply Kd.R_alloc | apply Kd.R_drewN | apply Kd.R_drew)); exact Kd.R_mono HO_7.out (fun _ hk => hk.2))); (case aS => exact (below_size (by repeat (first | (with_reducible first | exact HB.out | apply below_alloc | apply pw_below_drewN | apply below_drew1 | refine below_set ?_ GE154.out) | exact HB.out)))); (case aL => have := LMc22.out; omega); intro v160 w35 ho hb hg hat; rw [← Ny159.out] at ho; have n0_ := Aside0.mk (Kd.N_afterv (ok := (fun k_ => some k_ ≠ (v157 : Value).ownBlock ∧ k_ ≠ gb154)) (by (with_reducible repeat (first | apply Kd.N_alloc | apply Kd.N_drewN | apply Kd.N_drew)); exact Kd.N_mono HO_8.out (fun _ hk => ⟨⟨hk.2, hk.1.2⟩, hk.1.1⟩)) hg hat); have n1_ := Aside0.mk (blk_grown (g := gb154) (o := .cells #[.string ((rd_T31 l0 x9_1).f0), .int .i64 ((rd_T31 l0 x9_1).f1), .int .i64 ((rd_T31 l0 x9_1).f2)] 31 (0, 0)) (by (with_reducible repeat (first | refine blk_drewN ?_ _ | refine blk_drew ?_ | refine blk_alloc ?_ _)); exact BK154.out) hg (Kd.R_ne HO_7.out BK154.out (by decide))); have n2_ := Aside0.mk (Kd.R_after (ok := (fun _ => True)) (by (with_reducible repeat (first | apply Kd.R_alloc | apply Kd.R_drewN | apply Kd.R_drew)); exact Kd.R_mono HO158.out (fun _ hk => ⟨trivial, hk⟩)) hg hat); have n3_ := Aside0.mk (hb); have n4_ := Aside0.mk (ho); clear HO_8; clear BK154; clear HO158; clear HB; clear HO_7; have HO_8 := n0_; have BK154 := n1_; have HO158 := n2_; have HB := n3_; have HO161 := n4_; clear n0_ n1_ n2_ n3_ n4_; clear ho hb hg hat; have hcz36_0 : w35.cell? ⟨gb154, 0, none⟩ = some (.string ((rd_T31 l0 x9_1).f0)) := (blk_cell BK154.out 0).trans rfl; have hcz36_1 : w35.cell? ⟨gb154, 1, none⟩ = some (.int .i64 ((rd_T31 l0 x9_1).f1)) := (blk_cell BK154.out 1).trans rfl; have hcz36_2 : w35.cell? ⟨gb154, 2, none⟩ = some (.int .i64 ((rd_T31 l0 x9_1).f2)) := (blk_cell BK154.out 2).trans rfl; have hfz36_0 := blk_frozen BK154.out 0; have hfz36_1 := blk_frozen BK154.out 1; have hfz36_2 := blk_frozen BK154.out 2) | ((with_reducible refine gate_dst (N := 55) rfl ?_); refine Kd.R_lit Kd.string _ 9 ?hg (N := 55) ?hd (xs := ([((rd_T31 l0 x9_1).f0), (⟨#[]⟩ : ByteArray), (⟨#[]⟩ : ByteArray)] : List ByteArray)) (inner := [.string ((rd_T31 l0 x9_1).f0), .string (⟨#[]⟩ : ByteArray), .string (⟨#[]⟩ : ByteArray)]) (ok := fun _ => True) (okp := fun _ => True) ?hr ?hp (fun _ hk => hk) trivial (Below.refl _ _) (Nat.le_refl _) (by simp) ?_; (case hd => rfl); (case hg => rfl); (case hr => first | (go_simp; done) | (go_simp; rfl)); (case hp => exact (Reps.one (show Kd.M Kd.string _ _ _ ((rd_T31 l0 x9_1).f0) [.string ((rd_T31 l0 x9_1).f0)] from rfl) (Reps.one (show Kd.M Kd.string _ _ _ (⟨#[]⟩ : ByteArray) [.string (⟨#[]⟩ : ByteArray)] from rfl) (Reps.one (show Kd.M Kd.string _ _ _ (⟨#[]⟩ : ByteArray) [.string (⟨#[]⟩ : ByteArray)] from rfl) (Reps.none _ _))))); intro v163 w37 ho38 hb hg_ hnew_; clear hg_ hnew_; (first | rw [← Ny162.out] at ho38 | (simp only [Int.reduceToNat] at ho38; rw [← Ny162.out] at ho38)); have n0_ := Aside0.mk (Kd.N_elder' (by (with_reducible repeat (first | apply Kd.N_alloc | apply Kd.N_drewN | apply Kd.N_drew)); exact HO_8.out) (Kd.R_base ho38) hb); have n1_ := Aside0.mk (Kd.R_below (by (with_reducible repeat (first | apply Kd.R_alloc | apply Kd.R_drewN | apply Kd.R_drew)); exact HO158.out) hb); have n2_ := Aside0.mk (Kd.R_below (by (with_reducible repeat (first | apply Kd.R_alloc | apply Kd.R_drewN | apply Kd.R_drew)); exact HO161.out) hb); have n3_ := Aside0.mk (Kd.R_lower ho38 (below_size (by repeat (first | (with_reducible first | exact HB.out | apply below_alloc | apply pw_below_drewN | apply below_drew1 | refine below_set ?_ GE154.out) | exact HB.out)))); have n4_ := Aside0.mk (blk_below (g := gb154) (o := .cells #[.string ((rd_T31 l0 x9_1).f0), .int .i64 ((rd_T31 l0 x9_1).f1), .int .i64 ((rd_T31 l0 x9_1).f2)] 31 (0, 0)) (by (with_reducible repeat (first | refine blk_drewN ?_ _ | refine blk_drew ?_ | refine blk_alloc ?_ _)); exact BK154.out) hb); have n5_ := Aside0.mk (below_step (by repeat (first | (with_reducible first | exact HB.out | apply below_alloc | apply pw_below_drewN | apply below_drew1 | refine below_set ?_ GE154.out) | exact HB.out)) hb); clear HO_8; clear HO158; clear HO161; clear BK154; clear HB; have HO_8 := n0_; have HO158 := n1_; have HO161 := n2_; have HO164 := n3_; have BK154 := n4_; have HB := n5_; clear n0_ n1_ n2_ n3_ n4_ n5_; clear hb ho38; have hcz39_0 : w37.cell? ⟨gb154, 0, none⟩ = some (.string ((rd_T31 l0 x9_1).f0)) := (blk_cell BK154.out 0).trans rfl; have hcz39_1 : w37.cell? ⟨gb154, 1, none⟩ = some (.int .i64 ((rd_T31 l0 x9_1).f1)) := (blk_cell BK154.out 1).trans rfl; have hcz39_2 : w37.cell? ⟨gb154, 2, none⟩ = some (.int .i64 ((rd_T31 l0 x9_1).f2)) := (blk_cell BK154.out 2).trans rfl; have hfz39_0 := blk_frozen BK154.out 0; have hfz39_1 := blk_frozen BK154.out 1; have hfz39_2 := blk_frozen BK154.out 2) | ((with_reducible refine gate_callee (f := 50) rfl ?_); refine goesL_ (some 63) rfl rfl Tryz.func50 (by kernel_rfl) rfl #[.int .i64 ((rd_T31 l0 x9_1).f1), .int .i64 a1] rfl (by (try simp only [List.map_toArray, List.map_cons, List.map_nil]); first | done | rfl | (simp only [List.length_drop, List.length_take]; rfl)) ?_; (with_reducible refine (daybookref17_money.calls kj13 ((rd_T31 l0 x9_1).f1) a1 t165 _ A24.out).mono ?_); rintro e w40 ⟨rfl, hb⟩; refine ⟨_, rfl, ?_⟩; have n0_ := Aside0.mk (Kd.N_below (by (with_reducible repeat (first | apply Kd.N_alloc | apply Kd.N_drewN | apply Kd.N_drew)); exact HO_8.out) hb); have n1_ := Aside0.mk (Kd.R_below (by (with_reducible repeat (first | apply Kd.R_alloc | apply Kd.R_drewN | apply Kd.R_drew)); exact HO158.out) hb); have n2_ := Aside0.mk (Kd.R_below (by (with_reducible repeat (first | apply Kd.R_alloc | apply Kd.R_drewN | apply Kd.R_drew)); exact HO161.out) hb); have n3_ := Aside0.mk (Kd.R_below (by (with_reducible repeat (first | apply Kd.R_alloc | apply Kd.R_drewN | apply Kd.R_drew)); exact HO164.out) hb); have n4_ := Aside0.mk (blk_below (g := gb154) (o := .cells #[.string ((rd_T31 l0 x9_1).f0), .int .i64 ((rd_T31 l0 x9_1).f1), .int .i64 ((rd_T31 l0 x9_1).f2)] 31 (0, 0)) (by (with_reducible repeat (first | refine blk_drewN ?_ _ | refine blk_drew ?_ | refine blk_alloc ?_ _)); exact BK154.out) hb); have n5_ := Aside0.mk (below_step (by repeat (first | (with_reducible first | exact HB.out | apply below_alloc | apply pw_below_drewN | apply below_drew1 | refine below_set ?_ GE154.out) | exact HB.out)) hb); clear HO_8; clear HO158; clear HO161; clear HO164; clear BK154; clear HB; have HO_8 := n0_; have HO158 := n1_; have HO161 := n2_; have HO164 := n3_; have BK154 := n4_; have HB := n5_; clear n0_ n1_ n2_ n3_ n4_ n5_; (try clear hb); (try clear hb2); (try clear hk); (try clear hi); have p26 : 0 ≤ (1 : Int) := (by omega); have q26 : (1 : Int) < ((y162.length : Int) : Int) := of_decide_eq_true (by first | (with_reducible assumption) | assumption); have qi26 : (1 < y162.length) = True := eq_true (by omega); obtain ⟨go26, co26, eo26, gb26, gl26, cl26, HG26⟩ := Kd.R_form HO164.out (by omega); (first | cases eo26 | (injection eo26 with ea_ en_ ec_; (first | subst ea_ | (injection ea_ with ea_; subst ea_)); subst ec_; clear en_)); have GB26 := Aside0.mk gb26; have GG26 := Aside0.mk HG26; clear gb26 gl26 HG26; obtain ⟨hx26_0, hf26_0⟩ := Kd.R_celln (⟨#[]⟩ : ByteArray) HO164.out (1 : Int) p26 q26; (try rw [show ((1 : Int)).toNat = 1 from rfl] at hx26_0); (try simp only [Nat.reduceMul, Nat.zero_mul, Nat.zero_add, Nat.reduceAdd] at hx26_0); (try rw [show ((1 : Int)).toNat = 1 from rfl] at hf26_0); (try simp only [Nat.reduceMul, Nat.zero_mul, Nat.zero_add, Nat.reduceAdd] at hf26_0); replace p26 := eq_true p26; replace q26 := eq_true q26; obtain ⟨hy41_, hz41_⟩ := Kd.R_celln (⟨#[]⟩ : ByteArray) HO164.out (1 : Int) (by omega) (of_decide_eq_true (by first | (with_reducible assumption) | assumption)); (try simp only [Int.reduceToNat, Int.toNat_zero, Int.toNat_ofNat, Nat.reduceMul, Nat.zero_mul, Nat.zero_add] at hy41_ hz41_); (try rw [show ((1 : Int)).toNat = 1 from rfl] at hy41_); (try rw [show ((1 : Int)).toNat = 1 from rfl] at hz41_); have HP41 := Kd.R_putg HO164.out (1 : Int) t165) | ((with_reducible refine gate_store (t := 9) (p := 64) rfl ?_); refine store_event (t := 9) (p := 64) (v := ?vo_w42) (w1 := (w40.setCell ⟨go26, (1 : Int).toNat, none⟩ (.string t165))) ?hg ?ho ?hn ?hr ?_; (case ho => rfl); (case hg => rfl); (case hn => rfl); (case hr => first | (go_simp; done) | (go_simp; rfl)); intro w42 hw; have hg : w40.grownBy w42 (some go26) := (by rw [hw]; exact HP41.2); have hp_ : Kd.R Kd.string 9 w42 w.heap.size (fun _ => True) (.slice (some ⟨go26, 0, none⟩) y162.length co26) y166 := (by rw [hw, Ny166.out]; exact HP41.1); clear HP41; have n0_ := Aside0.mk (Kd.N_afterv (v := (.slice (some ⟨go26, 0, none⟩) y162.length co26)) (v1 := (.slice (some ⟨go26, 0, none⟩) y162.length co26)) (ok := (fun k_ => some k_ ≠ (v157 : Value).ownBlock ∧ some k_ ≠ (v160 : Value).ownBlock ∧ k_ ≠ gb154)) (by (with_reducible repeat (first | apply Kd.N_alloc | apply Kd.N_drewN | apply Kd.N_drew)); exact Kd.N_mono HO_8.out (fun _ hk => ⟨⟨hk.1.1.1, ⟨hk.1.2, hk.1.1.2⟩⟩, hk.2⟩)) hg (.inl rfl)); have n1_ := Aside0.mk (blk_grown (g := gb154) (o := .cells #[.string ((rd_T31 l0 x9_1).f0), .int .i64 ((rd_T31 l0 x9_1).f1), .int .i64 ((rd_T31 l0 x9_1).f2)] 31 (0, 0)) (by (with_reducible repeat (first | refine blk_drewN ?_ _ | refine blk_drew ?_ | refine blk_alloc ?_ _)); exact BK154.out) hg (Kd.R_ne HO164.out BK154.out (by decide))); have n2_ := Aside0.mk (Kd.R_over' (v := (.slice (some ⟨go26, 0, none⟩) y162.length co26)) (by (with_reducible repeat (first | apply Kd.R_alloc | apply Kd.R_drewN | apply Kd.R_drew)); exact HO158.out) (Kd.R_typed HO164.out) (by decide) hg); have n3_ := Aside0.mk (Kd.R_over' (v := (.slice (some ⟨go26, 0, none⟩) y162.length co26)) (by (with_reducible repeat (first | apply Kd.R_alloc | apply Kd.R_drewN | apply Kd.R_drew)); exact HO161.out) (Kd.R_typed HO164.out) (by decide) hg); have n4_ := Aside0.mk (hp_); have n5_ := Aside0.mk ((by rw [hw]; exact below_set (HB.out) GB26.out : Below w.heap.size w w42)); clear HO_8; clear BK154; clear HO158; clear HO161; clear HO164; clear HB; have HO_8 := n0_; have BK154 := n1_; have HO158 := n2_; have HO161 := n3_; have HO164 := n4_; have HB := n5_; clear n0_ n1_ n2_ n3_ n4_ n5_; clear hg hw hp_; have hcz43_0 : w42.cell? ⟨gb154, 0, none⟩ = some (.string ((rd_T31 l0 x9_1).f0)) := (blk_cell BK154.out 0).trans rfl; have hcz43_1 : w42.cell? ⟨gb154, 1, none⟩ = some (.int .i64 ((rd_T31 l0 x9_1).f1)) := (blk_cell BK154.out 1).trans rfl; have hcz43_2 : w42.cell? ⟨gb154, 2, none⟩ = some (.int .i64 ((rd_T31 l0 x9_1).f2)) := (blk_cell BK154.out 2).trans rfl; have hfz43_0 := blk_frozen BK154.out 0; have hfz43_1 := blk_frozen BK154.out 1; have hfz43_2 := blk_frozen BK154.out 2) | ((with_reducible refine gate_callee (f := 50) rfl ?_); refine goesL_ (some 72) rfl rfl Tryz.func50 (by kernel_rfl) rfl #[.int .i64 ((rd_T31 l0 x9_1).f2), .int .i64 a1] rfl (by (try simp only [List.map_toArray, List.map_cons, List.map_nil]); first | done | rfl | (simp only [List.length_drop, List.length_take]; rfl)) ?_; (with_reducible refine (daybookref17_money.calls kj13 ((rd_T31 l0 x9_1).f2) a1 t167 _ A28.out).mono ?_); rintro e w44 ⟨rfl, hb⟩; refine ⟨_, rfl, ?_⟩; have n0_ := Aside0.mk (Kd.N_below (by (with_reducible repeat (first | apply Kd.N_alloc | apply Kd.N_drewN | apply Kd.N_drew)); exact HO_8.out) hb); have n1_ := Aside0.mk (Kd.R_below (by (with_reducible repeat (first | apply Kd.R_alloc | apply Kd.R_drewN | apply Kd.R_drew)); exact HO158.out) hb); have n2_ := Aside0.mk (Kd.R_below (by (with_reducible repeat (first | apply Kd.R_alloc | apply Kd.R_drewN | apply Kd.R_drew)); exact HO161.out) hb); have n3_ := Aside0.mk (Kd.R_below (by (with_reducible repeat (first | apply Kd.R_alloc | apply Kd.R_drewN | apply Kd.R_drew)); exact HO164.out) hb); have n4_ := Aside0.mk (blk_below (g := gb154) (o := .cells #[.string ((rd_T31 l0 x9_1).f0), .int .i64 ((rd_T31 l0 x9_1).f1), .int .i64 ((rd_T31 l0 x9_1).f2)] 31 (0, 0)) (by (with_reducible repeat (first | refine blk_drewN ?_ _ | refine blk_drew ?_ | refine blk_alloc ?_ _)); exact BK154.out) hb); have n5_ := Aside0.mk (below_step (by repeat (first | (with_reducible first | exact HB.out | apply below_alloc | apply pw_below_drewN | apply below_drew1 | refine below_set ?_ GE154.out) | exact HB.out)) hb); clear HO_8; clear HO158; clear HO161; clear HO164; clear BK154; clear HB; have HO_8 := n0_; have HO158 := n1_; have HO161 := n2_; have HO164 := n3_; have BK154 := n4_; have HB := n5_; clear n0_ n1_ n2_ n3_ n4_ n5_; (try clear hb); (try clear hb2); (try clear hk); (try clear hi); have p30 : 0 ≤ (2 : Int) := (by omega); have q30 : (2 : Int) < ((y162.length : Int) : Int) := of_decide_eq_true (by first | (with_reducible assumption) | assumption); have qi30 : (2 < y162.length) = True := eq_true (by omega); obtain ⟨hx30_0, hf30_0⟩ := Kd.R_celln (⟨#[]⟩ : ByteArray) HO164.out (2 : Int) p30 q30; (try rw [show ((2 : Int)).toNat = 2 from rfl] at hx30_0); (try simp only [Nat.reduceMul, Nat.zero_mul, Nat.zero_add, Nat.reduceAdd] at hx30_0); (try rw [show ((2 : Int)).toNat = 2 from rfl] at hf30_0); (try simp only [Nat.reduceMul, Nat.zero_mul, Nat.zero_add, Nat.reduceAdd] at hf30_0); replace p30 := eq_true p30; replace q30 := eq_true q30; obtain ⟨hy45_, hz45_⟩ := Kd.R_celln (⟨#[]⟩ : ByteArray) HO164.out (2 : Int) (by omega) (of_decide_eq_true (by first | (with_reducible assumption) | assumption)); (try simp only [Int.reduceToNat, Int.toNat_zero, Int.toNat_ofNat, Nat.reduceMul, Nat.zero_mul, Nat.zero_add] at hy45_ hz45_); (try rw [show ((2 : Int)).toNat = 2 from rfl] at hy45_); (try rw [show ((2 : Int)).toNat = 2 from rfl] at hz45_); have HP45 := Kd.R_putg HO164.out (2 : Int) t167) | ((with_reducible refine gate_store (t := 9) (p := 73) rfl ?_); refine store_event (t := 9) (p := 73) (v := ?vo_w46) (w1 := (w44.setCell ⟨go26, (2 : Int).toNat, none⟩ (.string t167))) ?hg ?ho ?hn ?hr ?_; (case ho => rfl); (case hg => rfl); (case hn => rfl); (case hr => first | (go_simp; done) | (go_simp; rfl)); intro w46 hw; have hg : w44.grownBy w46 (some go26) := (by rw [hw]; exact HP45.2); have hp_ : Kd.R Kd.string 9 w46 w.heap.size (fun _ => True) (.slice (some ⟨go26, 0, none⟩) y162.length co26) y168 := (by rw [hw, Ny168.out]; exact HP45.1); clear HP45; have n0_ := Aside0.mk (Kd.N_afterv (v := (.slice (some ⟨go26, 0, none⟩) y162.length co26)) (v1 := (.slice (some ⟨go26, 0, none⟩) y162.length co26)) (ok := (fun k_ => some k_ ≠ (v157 : Value).ownBlock ∧ some k_ ≠ (v160 : Value).ownBlock ∧ k_ ≠ gb154)) (by (with_reducible repeat (first | apply Kd.N_alloc | apply Kd.N_drewN | apply Kd.N_drew)); exact HO_8.out) hg (.inl rfl)); have n1_ := Aside0.mk (blk_grown (g := gb154) (o := .cells #[.string ((rd_T31 l0 x9_1).f0), .int .i64 ((rd_T31 l0 x9_1).f1), .int .i64 ((rd_T31 l0 x9_1).f2)] 31 (0, 0)) (by (with_reducible repeat (first | refine blk_drewN ?_ _ | refine blk_drew ?_ | refine blk_alloc ?_ _)); exact BK154.out) hg (Kd.R_ne HO164.out BK154.out (by decide))); have n2_ := Aside0.mk (Kd.R_over' (v := (.slice (some ⟨go26, 0, none⟩) y162.length co26)) (by (with_reducible repeat (first | apply Kd.R_alloc | apply Kd.R_drewN | apply Kd.R_drew)); exact HO158.out) (Kd.R_typed HO164.out) (by decide) hg); have n3_ := Aside0.mk (Kd.R_over' (v := (.slice (some ⟨go26, 0, none⟩) y162.length co26)) (by (with_reducible repeat (first | apply Kd.R_alloc | apply Kd.R_drewN | apply Kd.R_drew)); exact HO161.out) (Kd.R_typed HO164.out) (by decide) hg); have n4_ := Aside0.mk (hp_); have n5_ := Aside0.mk ((by rw [hw]; exact below_set (HB.out) GB26.out : Below w.heap.size w w46)); clear HO_8; clear BK154; clear HO158; clear HO161; clear HO164; clear HB; have HO_8 := n0_; have BK154 := n1_; have HO158 := n2_; have HO161 := n3_; have HO164 := n4_; have HB := n5_; clear n0_ n1_ n2_ n3_ n4_ n5_; clear hg hw hp_) | ((with_reducible refine gate_builtin (b := .append) (xs := #[.tmp 74, .tmp 76]) rfl ?_); at_builtin; refine Kd.N_append (Kd.slice 9 Kd.string) (w0 := w) w.heap.size rfl (.tmp 74) (.tmp 76) 80 90 (.slice none 0 0) 24 rfl Tryz.underlying80 info90 rfl (by decide) (by omega) u8 x8_1 y168 [.slice (some ⟨go26, 0, none⟩) y162.length co26] (fun k_ => some k_ ≠ (v157 : Value).ownBlock ∧ some k_ ≠ (v160 : Value).ownBlock ∧ k_ ≠ gb154) (fun k_ => ((fun k_ => some k_ ≠ (v157 : Value).ownBlock ∧ some k_ ≠ (v160 : Value).ownBlock ∧ k_ ≠ gb154)) k_ ∧ some k_ ≠ (u8 : Value).ownBlock) rfl rfl ?aP (fun _ hk => hk) ?aF ?aO ?aB ?aS ?aL ?_; (case aP => first | exact (Kd.FK_slice_mk (Kd.R_reads' (Kd.R_mono (ok' := (fun k_ => ((fun k_ => some k_ ≠ (v157 : Value).ownBlock ∧ some k_ ≠ (v160 : Value).ownBlock ∧ k_ ≠ gb154)) k_ ∧ some k_ ≠ (u8 : Value).ownBlock)) (Kd.R_types (Kd.R_apart' (Kd.R_apart' (Kd.R_apart' (HO164.out) (Kd.R_typed HO158.out) (by decide)) (Kd.R_typed HO161.out) (by decide)) (Kd.N_typed HO_8.out) (by decide)) BK154.out (by decide)) (fun k_ hk => ⟨⟨hk.1.1.1.2, ⟨hk.1.1.2, hk.2⟩⟩, hk.1.2⟩))).2.1 (Kd.R_F (Kd.R_mono (ok' := (fun k_ => ((fun k_ => some k_ ≠ (v157 : Value).ownBlock ∧ some k_ ≠ (v160 : Value).ownBlock ∧ k_ ≠ gb154)) k_ ∧ some k_ ≠ (u8 : Value).ownBlock)) (Kd.R_types (Kd.R_apart' (Kd.R_apart' (Kd.R_apart' (HO164.out) (Kd.R_typed HO158.out) (by decide)) (Kd.R_typed HO161.out) (by decide)) (Kd.N_typed HO_8.out) (by decide)) BK154.out (by decide)) (fun k_ hk => ⟨⟨hk.1.1.1.2, ⟨hk.1.1.2, hk.2⟩⟩, hk.1.2⟩)))) | exact fk_row6 (Kd.R_mono (ok' := (fun k_ => ((fun k_ => some k_ ≠ (v157 : Value).ownBlock ∧ some k_ ≠ (v160 : Value).ownBlock ∧ k_ ≠ gb154)) k_ ∧ some k_ ≠ (u8 : Value).ownBlock)) (Kd.R_types (Kd.R_apart' (Kd.R_apart' (Kd.R_apart' (HO164.out) (Kd.R_typed HO158.out) (by decide)) (Kd.R_typed HO161.out) (by decide)) (Kd.N_typed HO_8.out) (by decide)) BK154.out (by decide)) (fun k_ hk => ⟨⟨hk.1.1.1.2, ⟨hk.1.1.2, hk.2⟩⟩, hk.1.2⟩))); (case aB => exact (by repeat (first | (with_reducible first | exact HB.out | apply below_alloc | apply pw_below_drewN | apply below_drew1 | refine below_set ?_ GE154.out) | exact HB.out))); (case aF => exact (fun k_ hk => ⟨Kd.fresh' (Kd.R_lt (by (with_reducible repeat (first | apply Kd.R_alloc | apply Kd.R_drewN | apply Kd.R_drew)); exact HO158.out)) k_ hk, Kd.fresh' (Kd.R_lt (by (with_reducible repeat (first | apply Kd.R_alloc | apply Kd.R_drewN | apply Kd.R_drew)); exact HO161.out)) k_ hk, Kd.freshB (g := gb154) (o := .cells #[.string ((rd_T31 l0 x9_1).f0), .int .i64 ((rd_T31 l0 x9_1).f1), .int .i64 ((rd_T31 l0 x9_1).f2)] 31 (0, 0)) (by (with_reducible repeat (first | refine blk_drewN ?_ _ | refine blk_drew ?_ | refine blk_alloc ?_ _)); exact BK154.out) k_ hk⟩)); (case aO => exact (by (with_reducible repeat (first | apply Kd.N_alloc | apply Kd.N_drewN | apply Kd.N_drew)); exact Kd.N_mono HO_8.out (fun _ hk => ⟨hk.1.1, ⟨hk.1.2.1, hk.1.2.2⟩⟩))); (case aS => exact (below_size (by repeat (first | (with_reducible first | exact HB.out | apply below_alloc | apply pw_below_drewN | apply below_drew1 | refine below_set ?_ GE154.out) | exact HB.out)))); (case aL => have := LMc31.out; omega); intro v170 w47 ho hb hg hat; rw [← Ny169.out] at ho; have n0_ := Aside0.mk (blk_grown (g := gb154) (o := .cells #[.string ((rd_T31 l0 x9_1).f0), .int .i64 ((rd_T31 l0 x9_1).f1), .int .i64 ((rd_T31 l0 x9_1).f2)] 31 (0, 0)) (by (with_reducible repeat (first | refine blk_drewN ?_ _ | refine blk_drew ?_ | refine blk_alloc ?_ _)); exact BK154.out) hg (Kd.N_ne HO_8.out BK154.out (by decide))); have n1_ := Aside0.mk (Kd.R_over' (by (with_reducible repeat (first | apply Kd.R_alloc | apply Kd.R_drewN | apply Kd.R_drew)); exact HO158.out) (Kd.N_typed (by (with_reducible repeat (first | apply Kd.N_alloc | apply Kd.N_drewN | apply Kd.N_drew)); exact HO_8.out)) (by decide) hg); have n2_ := Aside0.mk (Kd.R_over' (by (with_reducible repeat (first | apply Kd.R_alloc | apply Kd.R_drewN | apply Kd.R_drew)); exact HO161.out) (Kd.N_typed (by (with_reducible repeat (first | apply Kd.N_alloc | apply Kd.N_drewN | apply Kd.N_drew)); exact HO_8.out)) (by decide) hg); have n3_ := Aside0.mk (hb); have n4_ := Aside0.mk (ho); clear BK154; clear HO158; clear HO161; clear HB; clear HO_8; clear HO164; have BK154 := n0_; have HO158 := n1_; have HO161 := n2_; have HB := n3_; have HO171 := n4_; clear n0_ n1_ n2_ n3_ n4_; clear ho hb hg hat))
                                  go_roundg kj13
                                  case measure => have := HK1.out; have := HJ13.out; omega
                                  case rel => exact ⟨(y156), (y159), (y169), (wrap64 (x9_1 + 1)), (by first | rfl | (simp; done) | (simp [*]; done)), H', ⟨by have := HK1.out; have := HJ13.out; omega⟩, ⟨by (with_reducible repeat (first | apply Kd.R_alloc | apply Kd.R_drewN | apply Kd.R_drew)); exact Kd.R_mono HO158.out (fun _ hk => hk.2)⟩, ⟨by (with_reducible repeat (first | apply Kd.R_alloc | apply Kd.R_drewN | apply Kd.R_drew)); exact HO161.out⟩, ⟨by (with_reducible repeat (first | apply Kd.N_alloc | apply Kd.N_drewN | apply Kd.N_drew)); exact Kd.N_mono HO171.out (fun _ hk => ⟨hk.1, hk.2.1⟩)⟩, ⟨by repeat (first | (with_reducible first | exact HB.out | apply below_alloc | apply pw_below_drewN | apply below_drew1 | refine below_set ?_ GE154.out) | exact HB.out)⟩⟩
                                · rw [if_neg c31] at H
                                  exact absurd H (by simp)
                              · rw [if_neg c29] at H
                                exact absurd H (by simp)
                            · rw [if_neg c27] at H
                              have c27b0 : decide (0 < ((rd_T31 l0 x9_1).f2)) = false := decide_eq_false c27
                              clear c27
                              by_cases c48 : x8_1.length < 5864062014805
                              · rw [if_pos c48] at H
                                have LMc48 := Aside0.mk c48
                                clear c48
                                obtain ⟨y172, hy172⟩ : ∃ y_ : List (List ByteArray), y_ = (x8_1 ++ [y166]) := ⟨_, rfl⟩
                                replace H : (daybookref17_Trial.l0 kj13 l0 a1 y156 y159 y172 (wrap64 (x9_1 + 1))) = some (r1, r2) := by first | (rw [hy172]; with_reducible exact H) | (have H2_ := (Option.bind_some _ _).symm.trans H; rw [hy172]; with_reducible exact H2_) | (have H2_ := (Option.bind_some _ _).symm.trans H; with_reducible exact H2_) | with_reducible exact H | (rw [hy172]; exact H) | exact H
                                have Ny172 := Aside0.mk hy172
                                clear hy172
                                have H' := Aside0.mk H
                                clear H
                                have hcz49_0 : wc.cell? ⟨gb154, 0, none⟩ = some (.string ((rd_T31 l0 x9_1).f0)) := (blk_cell BK154.out 0).trans rfl
                                have hcz49_1 : wc.cell? ⟨gb154, 1, none⟩ = some (.int .i64 ((rd_T31 l0 x9_1).f1)) := (blk_cell BK154.out 1).trans rfl
                                have hcz49_2 : wc.cell? ⟨gb154, 2, none⟩ = some (.int .i64 ((rd_T31 l0 x9_1).f2)) := (blk_cell BK154.out 2).trans rfl
                                have hfz49_0 := blk_frozen BK154.out 0
                                have hfz49_1 := blk_frozen BK154.out 1
                                have hfz49_2 := blk_frozen BK154.out 2
                                go_wp2_with (first | ((with_reducible refine gate_builtin (b := .append) (xs := #[.tmp 43, .tmp 46]) rfl ?_); at_builtin; refine Kd.R_append (Kd.int .i64) (w0 := w) w.heap.size rfl (.tmp 43) (.tmp 46) 78 2 (.int .i64 0) 8 rfl Tryz.underlying78 info2 rfl (by decide) (by omega) u6 x6_1 ((rd_T31 l0 x9_1).f1) [.int .i64 ((rd_T31 l0 x9_1).f1)] (fun k_ => some k_ ≠ (u7 : Value).ownBlock) (fun _ => False) rfl rfl ?aP (fun _ hk => hk.elim) ?aF ?aO ?aB ?aS ?aL ?_; (case aP => exact rfl); (case aB => exact (by repeat (first | (with_reducible first | exact HB.out | apply below_alloc | apply pw_below_drewN | apply below_drew1 | refine below_set ?_ GE154.out) | exact HB.out))); (case aF => exact (fun k_ hk => Kd.fresh' (Kd.R_lt (by (with_reducible repeat (first | apply Kd.R_alloc | apply Kd.R_drewN | apply Kd.R_drew)); exact HO_7.out)) k_ hk)); (case aO => exact (by (with_reducible repeat (first | apply Kd.R_alloc | apply Kd.R_drewN | apply Kd.R_drew)); exact HO_6.out)); (case aS => exact (below_size (by repeat (first | (with_reducible first | exact HB.out | apply below_alloc | apply pw_below_drewN | apply below_drew1 | refine below_set ?_ GE154.out) | exact HB.out)))); (case aL => have := LMc21.out; omega); intro v157 w50 ho hb hg hat; rw [← Ny156.out] at ho; have n0_ := Aside0.mk (Kd.R_after (ok := (fun _ => True)) (by (with_reducible repeat (first | apply Kd.R_alloc | apply Kd.R_drewN | apply Kd.R_drew)); exact Kd.R_mono HO_7.out (fun _ hk => ⟨trivial, hk⟩)) hg hat); have n1_ := Aside0.mk (Kd.N_afterv (ok := (fun k_ => some k_ ≠ (u7 : Value).ownBlock ∧ k_ ≠ gb154)) (by (with_reducible repeat (first | apply Kd.N_alloc | apply Kd.N_drewN | apply Kd.N_drew)); exact Kd.N_mono HO_8.out (fun _ hk => ⟨⟨hk.2.1, hk.2.2⟩, hk.1⟩)) hg hat); have n2_ := Aside0.mk (blk_grown (g := gb154) (o := .cells #[.string ((rd_T31 l0 x9_1).f0), .int .i64 ((rd_T31 l0 x9_1).f1), .int .i64 ((rd_T31 l0 x9_1).f2)] 31 (0, 0)) (by (with_reducible repeat (first | refine blk_drewN ?_ _ | refine blk_drew ?_ | refine blk_alloc ?_ _)); exact BK154.out) hg (Kd.R_ne HO_6.out BK154.out (by decide))); have n3_ := Aside0.mk (hb); have n4_ := Aside0.mk (ho); clear HO_7; clear HO_8; clear BK154; clear HB; clear HO_6; have HO_7 := n0_; have HO_8 := n1_; have BK154 := n2_; have HB := n3_; have HO158 := n4_; clear n0_ n1_ n2_ n3_ n4_; clear ho hb hg hat; have hcz51_0 : w50.cell? ⟨gb154, 0, none⟩ = some (.string ((rd_T31 l0 x9_1).f0)) := (blk_cell BK154.out 0).trans rfl; have hcz51_1 : w50.cell? ⟨gb154, 1, none⟩ = some (.int .i64 ((rd_T31 l0 x9_1).f1)) := (blk_cell BK154.out 1).trans rfl; have hcz51_2 : w50.cell? ⟨gb154, 2, none⟩ = some (.int .i64 ((rd_T31 l0 x9_1).f2)) := (blk_cell BK154.out 2).trans rfl; have hfz51_0 := blk_frozen BK154.out 0; have hfz51_1 := blk_frozen BK154.out 1; have hfz51_2 := blk_frozen BK154.out 2) | ((with_reducible refine gate_builtin (b := .append) (xs := #[.tmp 48, .tmp 51]) rfl ?_); at_builtin; refine Kd.R_append (Kd.int .i64) (w0 := w) w.heap.size rfl (.tmp 48) (.tmp 51) 78 2 (.int .i64 0) 8 rfl Tryz.underlying78 info2 rfl (by decide) (by omega) u7 x7_1 ((rd_T31 l0 x9_1).f2) [.int .i64 ((rd_T31 l0 x9_1).f2)] (fun k_ => some k_ ≠ (v157 : Value).ownBlock) (fun _ => False) rfl rfl ?aP (fun _ hk => hk.elim) ?aF ?aO ?aB ?aS ?aL ?_; (case aP => exact rfl); (case aB => exact (by repeat (first | (with_reducible first | exact HB.out | apply below_alloc | apply pw_below_drewN | apply below_drew1 | refine below_set ?_ GE154.out) | exact HB.out))); (case aF => exact (fun k_ hk => Kd.fresh' (Kd.R_lt (by (with_reducible repeat (first | apply Kd.R_alloc | apply Kd.R_drewN | apply Kd.R_drew)); exact HO158.out)) k_ hk)); (case aO => exact (by (with_reducible repeat (first | apply Kd.R_alloc | apply Kd.R_drewN | apply Kd.R_drew)); exact Kd.R_mono HO_7.out (fun _ hk => hk.2))); (case aS => exact (below_size (by repeat (first | (with_reducible first | exact HB.out | apply below_alloc | apply pw_below_drewN | apply below_drew1 | refine below_set ?_ GE154.out) | exact HB.out)))); (case aL => have := LMc22.out; omega); intro v160 w52 ho hb hg hat; rw [← Ny159.out] at ho; have n0_ := Aside0.mk (Kd.N_afterv (ok := (fun k_ => some k_ ≠ (v157 : Value).ownBlock ∧ k_ ≠ gb154)) (by (with_reducible repeat (first | apply Kd.N_alloc | apply Kd.N_drewN | apply Kd.N_drew)); exact Kd.N_mono HO_8.out (fun _ hk => ⟨⟨hk.2, hk.1.2⟩, hk.1.1⟩)) hg hat); have n1_ := Aside0.mk (blk_grown (g := gb154) (o := .cells #[.string ((rd_T31 l0 x9_1).f0), .int .i64 ((rd_T31 l0 x9_1).f1), .int .i64 ((rd_T31 l0 x9_1).f2)] 31 (0, 0)) (by (with_reducible repeat (first | refine blk_drewN ?_ _ | refine blk_drew ?_ | refine blk_alloc ?_ _)); exact BK154.out) hg (Kd.R_ne HO_7.out BK154.out (by decide))); have n2_ := Aside0.mk (Kd.R_after (ok := (fun _ => True)) (by (with_reducible repeat (first | apply Kd.R_alloc | apply Kd.R_drewN | apply Kd.R_drew)); exact Kd.R_mono HO158.out (fun _ hk => ⟨trivial, hk⟩)) hg hat); have n3_ := Aside0.mk (hb); have n4_ := Aside0.mk (ho); clear HO_8; clear BK154; clear HO158; clear HB; clear HO_7; have HO_8 := n0_; have BK154 := n1_; have HO158 := n2_; have HB := n3_; have HO161 := n4_; clear n0_ n1_ n2_ n3_ n4_; clear ho hb hg hat; have hcz53_0 : w52.cell? ⟨gb154, 0, none⟩ = some (.string ((rd_T31 l0 x9_1).f0)) := (blk_cell BK154.out 0).trans rfl; have hcz53_1 : w52.cell? ⟨gb154, 1, none⟩ = some (.int .i64 ((rd_T31 l0 x9_1).f1)) := (blk_cell BK154.out 1).trans rfl; have hcz53_2 : w52.cell? ⟨gb154, 2, none⟩ = some (.int .i64 ((rd_T31 l0 x9_1).f2)) := (blk_cell BK154.out 2).trans rfl; have hfz53_0 := blk_frozen BK154.out 0; have hfz53_1 := blk_frozen BK154.out 1; have hfz53_2 := blk_frozen BK154.out 2) | ((with_reducible refine gate_dst (N := 55) rfl ?_); refine Kd.R_lit Kd.string _ 9 ?hg (N := 55) ?hd (xs := ([((rd_T31 l0 x9_1).f0), (⟨#[]⟩ : ByteArray), (⟨#[]⟩ : ByteArray)] : List ByteArray)) (inner := [.string ((rd_T31 l0 x9_1).f0), .string (⟨#[]⟩ : ByteArray), .string (⟨#[]⟩ : ByteArray)]) (ok := fun _ => True) (okp := fun _ => True) ?hr ?hp (fun _ hk => hk) trivial (Below.refl _ _) (Nat.le_refl _) (by simp) ?_; (case hd => rfl); (case hg => rfl); (case hr => first | (go_simp; done) | (go_simp; rfl)); (case hp => exact (Reps.one (show Kd.M Kd.string _ _ _ ((rd_T31 l0 x9_1).f0) [.string ((rd_T31 l0 x9_1).f0)] from rfl) (Reps.one (show Kd.M Kd.string _ _ _ (⟨#[]⟩ : ByteArray) [.string (⟨#[]⟩ : ByteArray)] from rfl) (Reps.one (show Kd.M Kd.string _ _ _ (⟨#[]⟩ : ByteArray) [.string (⟨#[]⟩ : ByteArray)] from rfl) (Reps.none _ _))))); intro v163 w54 ho55 hb hg_ hnew_; clear hg_ hnew_; (first | rw [← Ny162.out] at ho55 | (simp only [Int.reduceToNat] at ho55; rw [← Ny162.out] at ho55)); have n0_ := Aside0.mk (Kd.N_elder' (by (with_reducible repeat (first | apply Kd.N_alloc | apply Kd.N_drewN | apply Kd.N_drew)); exact HO_8.out) (Kd.R_base ho55) hb); have n1_ := Aside0.mk (Kd.R_below (by (with_reducible repeat (first | apply Kd.R_alloc | apply Kd.R_drewN | apply Kd.R_drew)); exact HO158.out) hb); have n2_ := Aside0.mk (Kd.R_below (by (with_reducible repeat (first | apply Kd.R_alloc | apply Kd.R_drewN | apply Kd.R_drew)); exact HO161.out) hb); have n3_ := Aside0.mk (Kd.R_lower ho55 (below_size (by repeat (first | (with_reducible first | exact HB.out | apply below_alloc | apply pw_below_drewN | apply below_drew1 | refine below_set ?_ GE154.out) | exact HB.out)))); have n4_ := Aside0.mk (blk_below (g := gb154) (o := .cells #[.string ((rd_T31 l0 x9_1).f0), .int .i64 ((rd_T31 l0 x9_1).f1), .int .i64 ((rd_T31 l0 x9_1).f2)] 31 (0, 0)) (by (with_reducible repeat (first | refine blk_drewN ?_ _ | refine blk_drew ?_ | refine blk_alloc ?_ _)); exact BK154.out) hb); have n5_ := Aside0.mk (below_step (by repeat (first | (with_reducible first | exact HB.out | apply below_alloc | apply pw_below_drewN | apply below_drew1 | refine below_set ?_ GE154.out) | exact HB.out)) hb); clear HO_8; clear HO158; clear HO161; clear BK154; clear HB; have HO_8 := n0_; have HO158 := n1_; have HO161 := n2_; have HO164 := n3_; have BK154 := n4_; have HB := n5_; clear n0_ n1_ n2_ n3_ n4_ n5_; clear hb ho55; have hcz56_0 : w54.cell? ⟨gb154, 0, none⟩ = some (.string ((rd_T31 l0 x9_1).f0)) := (blk_cell BK154.out 0).trans rfl; have hcz56_1 : w54.cell? ⟨gb154, 1, none⟩ = some (.int .i64 ((rd_T31 l0 x9_1).f1)) := (blk_cell BK154.out 1).trans rfl; have hcz56_2 : w54.cell? ⟨gb154, 2, none⟩ = some (.int .i64 ((rd_T31 l0 x9_1).f2)) := (blk_cell BK154.out 2).trans rfl; have hfz56_0 := blk_frozen BK154.out 0; have hfz56_1 := blk_frozen BK154.out 1; have hfz56_2 := blk_frozen BK154.out 2) | ((with_reducible refine gate_callee (f := 50) rfl ?_); refine goesL_ (some 63) rfl rfl Tryz.func50 (by kernel_rfl) rfl #[.int .i64 ((rd_T31 l0 x9_1).f1), .int .i64 a1] rfl (by (try simp only [List.map_toArray, List.map_cons, List.map_nil]); first | done | rfl | (simp only [List.length_drop, List.length_take]; rfl)) ?_; (with_reducible refine (daybookref17_money.calls kj13 ((rd_T31 l0 x9_1).f1) a1 t165 _ A24.out).mono ?_); rintro e w57 ⟨rfl, hb⟩; refine ⟨_, rfl, ?_⟩; have n0_ := Aside0.mk (Kd.N_below (by (with_reducible repeat (first | apply Kd.N_alloc | apply Kd.N_drewN | apply Kd.N_drew)); exact HO_8.out) hb); have n1_ := Aside0.mk (Kd.R_below (by (with_reducible repeat (first | apply Kd.R_alloc | apply Kd.R_drewN | apply Kd.R_drew)); exact HO158.out) hb); have n2_ := Aside0.mk (Kd.R_below (by (with_reducible repeat (first | apply Kd.R_alloc | apply Kd.R_drewN | apply Kd.R_drew)); exact HO161.out) hb); have n3_ := Aside0.mk (Kd.R_below (by (with_reducible repeat (first | apply Kd.R_alloc | apply Kd.R_drewN | apply Kd.R_drew)); exact HO164.out) hb); have n4_ := Aside0.mk (blk_below (g := gb154) (o := .cells #[.string ((rd_T31 l0 x9_1).f0), .int .i64 ((rd_T31 l0 x9_1).f1), .int .i64 ((rd_T31 l0 x9_1).f2)] 31 (0, 0)) (by (with_reducible repeat (first | refine blk_drewN ?_ _ | refine blk_drew ?_ | refine blk_alloc ?_ _)); exact BK154.out) hb); have n5_ := Aside0.mk (below_step (by repeat (first | (with_reducible first | exact HB.out | apply below_alloc | apply pw_below_drewN | apply below_drew1 | refine below_set ?_ GE154.out) | exact HB.out)) hb); clear HO_8; clear HO158; clear HO161; clear HO164; clear BK154; clear HB; have HO_8 := n0_; have HO158 := n1_; have HO161 := n2_; have HO164 := n3_; have BK154 := n4_; have HB := n5_; clear n0_ n1_ n2_ n3_ n4_ n5_; (try clear hb); (try clear hb2); (try clear hk); (try clear hi); have p26 : 0 ≤ (1 : Int) := (by omega); have q26 : (1 : Int) < ((y162.length : Int) : Int) := of_decide_eq_true (by first | (with_reducible assumption) | assumption); have qi26 : (1 < y162.length) = True := eq_true (by omega); obtain ⟨go26, co26, eo26, gb26, gl26, cl26, HG26⟩ := Kd.R_form HO164.out (by omega); (first | cases eo26 | (injection eo26 with ea_ en_ ec_; (first | subst ea_ | (injection ea_ with ea_; subst ea_)); subst ec_; clear en_)); have GB26 := Aside0.mk gb26; have GG26 := Aside0.mk HG26; clear gb26 gl26 HG26; obtain ⟨hx26_0, hf26_0⟩ := Kd.R_celln (⟨#[]⟩ : ByteArray) HO164.out (1 : Int) p26 q26; (try rw [show ((1 : Int)).toNat = 1 from rfl] at hx26_0); (try simp only [Nat.reduceMul, Nat.zero_mul, Nat.zero_add, Nat.reduceAdd] at hx26_0); (try rw [show ((1 : Int)).toNat = 1 from rfl] at hf26_0); (try simp only [Nat.reduceMul, Nat.zero_mul, Nat.zero_add, Nat.reduceAdd] at hf26_0); replace p26 := eq_true p26; replace q26 := eq_true q26; obtain ⟨hy58_, hz58_⟩ := Kd.R_celln (⟨#[]⟩ : ByteArray) HO164.out (1 : Int) (by omega) (of_decide_eq_true (by first | (with_reducible assumption) | assumption)); (try simp only [Int.reduceToNat, Int.toNat_zero, Int.toNat_ofNat, Nat.reduceMul, Nat.zero_mul, Nat.zero_add] at hy58_ hz58_); (try rw [show ((1 : Int)).toNat = 1 from rfl] at hy58_); (try rw [show ((1 : Int)).toNat = 1 from rfl] at hz58_); have HP58 := Kd.R_putg HO164.out (1 : Int) t165) | ((with_reducible refine gate_store (t := 9) (p := 64) rfl ?_); refine store_event (t := 9) (p := 64) (v := ?vo_w59) (w1 := (w57.setCell ⟨go26, (1 : Int).toNat, none⟩ (.string t165))) ?hg ?ho ?hn ?hr ?_; (case ho => rfl); (case hg => rfl); (case hn => rfl); (case hr => first | (go_simp; done) | (go_simp; rfl)); intro w59 hw; have hg : w57.grownBy w59 (some go26) := (by rw [hw]; exact HP58.2); have hp_ : Kd.R Kd.string 9 w59 w.heap.size (fun _ => True) (.slice (some ⟨go26, 0, none⟩) y162.length co26) y166 := (by rw [hw, Ny166.out]; exact HP58.1); clear HP58; have n0_ := Aside0.mk (Kd.N_afterv (v := (.slice (some ⟨go26, 0, none⟩) y162.length co26)) (v1 := (.slice (some ⟨go26, 0, none⟩) y162.length co26)) (ok := (fun k_ => some k_ ≠ (v157 : Value).ownBlock ∧ some k_ ≠ (v160 : Value).ownBlock ∧ k_ ≠ gb154)) (by (with_reducible repeat (first | apply Kd.N_alloc | apply Kd.N_drewN | apply Kd.N_drew)); exact Kd.N_mono HO_8.out (fun _ hk => ⟨⟨hk.1.1.1, ⟨hk.1.2, hk.1.1.2⟩⟩, hk.2⟩)) hg (.inl rfl)); have n1_ := Aside0.mk (blk_grown (g := gb154) (o := .cells #[.string ((rd_T31 l0 x9_1).f0), .int .i64 ((rd_T31 l0 x9_1).f1), .int .i64 ((rd_T31 l0 x9_1).f2)] 31 (0, 0)) (by (with_reducible repeat (first | refine blk_drewN ?_ _ | refine blk_drew ?_ | refine blk_alloc ?_ _)); exact BK154.out) hg (Kd.R_ne HO164.out BK154.out (by decide))); have n2_ := Aside0.mk (Kd.R_over' (v := (.slice (some ⟨go26, 0, none⟩) y162.length co26)) (by (with_reducible repeat (first | apply Kd.R_alloc | apply Kd.R_drewN | apply Kd.R_drew)); exact HO158.out) (Kd.R_typed HO164.out) (by decide) hg); have n3_ := Aside0.mk (Kd.R_over' (v := (.slice (some ⟨go26, 0, none⟩) y162.length co26)) (by (with_reducible repeat (first | apply Kd.R_alloc | apply Kd.R_drewN | apply Kd.R_drew)); exact HO161.out) (Kd.R_typed HO164.out) (by decide) hg); have n4_ := Aside0.mk (hp_); have n5_ := Aside0.mk ((by rw [hw]; exact below_set (HB.out) GB26.out : Below w.heap.size w w59)); clear HO_8; clear BK154; clear HO158; clear HO161; clear HO164; clear HB; have HO_8 := n0_; have BK154 := n1_; have HO158 := n2_; have HO161 := n3_; have HO164 := n4_; have HB := n5_; clear n0_ n1_ n2_ n3_ n4_ n5_; clear hg hw hp_; have hcz60_0 : w59.cell? ⟨gb154, 0, none⟩ = some (.string ((rd_T31 l0 x9_1).f0)) := (blk_cell BK154.out 0).trans rfl; have hcz60_1 : w59.cell? ⟨gb154, 1, none⟩ = some (.int .i64 ((rd_T31 l0 x9_1).f1)) := (blk_cell BK154.out 1).trans rfl; have hcz60_2 : w59.cell? ⟨gb154, 2, none⟩ = some (.int .i64 ((rd_T31 l0 x9_1).f2)) := (blk_cell BK154.out 2).trans rfl; have hfz60_0 := blk_frozen BK154.out 0; have hfz60_1 := blk_frozen BK154.out 1; have hfz60_2 := blk_frozen BK154.out 2) | ((with_reducible refine gate_builtin (b := .append) (xs := #[.tmp 74, .tmp 76]) rfl ?_); at_builtin; refine Kd.N_append (Kd.slice 9 Kd.string) (w0 := w) w.heap.size rfl (.tmp 74) (.tmp 76) 80 90 (.slice none 0 0) 24 rfl Tryz.underlying80 info90 rfl (by decide) (by omega) u8 x8_1 y166 [.slice (some ⟨go26, 0, none⟩) y162.length co26] (fun k_ => some k_ ≠ (v157 : Value).ownBlock ∧ some k_ ≠ (v160 : Value).ownBlock ∧ k_ ≠ gb154) (fun k_ => ((fun k_ => some k_ ≠ (v157 : Value).ownBlock ∧ some k_ ≠ (v160 : Value).ownBlock ∧ k_ ≠ gb154)) k_ ∧ some k_ ≠ (u8 : Value).ownBlock) rfl rfl ?aP (fun _ hk => hk) ?aF ?aO ?aB ?aS ?aL ?_; (case aP => first | exact (Kd.FK_slice_mk (Kd.R_reads' (Kd.R_mono (ok' := (fun k_ => ((fun k_ => some k_ ≠ (v157 : Value).ownBlock ∧ some k_ ≠ (v160 : Value).ownBlock ∧ k_ ≠ gb154)) k_ ∧ some k_ ≠ (u8 : Value).ownBlock)) (Kd.R_types (Kd.R_apart' (Kd.R_apart' (Kd.R_apart' (HO164.out) (Kd.R_typed HO158.out) (by decide)) (Kd.R_typed HO161.out) (by decide)) (Kd.N_typed HO_8.out) (by decide)) BK154.out (by decide)) (fun k_ hk => ⟨⟨hk.1.1.1.2, ⟨hk.1.1.2, hk.2⟩⟩, hk.1.2⟩))).2.1 (Kd.R_F (Kd.R_mono (ok' := (fun k_ => ((fun k_ => some k_ ≠ (v157 : Value).ownBlock ∧ some k_ ≠ (v160 : Value).ownBlock ∧ k_ ≠ gb154)) k_ ∧ some k_ ≠ (u8 : Value).ownBlock)) (Kd.R_types (Kd.R_apart' (Kd.R_apart' (Kd.R_apart' (HO164.out) (Kd.R_typed HO158.out) (by decide)) (Kd.R_typed HO161.out) (by decide)) (Kd.N_typed HO_8.out) (by decide)) BK154.out (by decide)) (fun k_ hk => ⟨⟨hk.1.1.1.2, ⟨hk.1.1.2, hk.2⟩⟩, hk.1.2⟩)))) | exact fk_row6 (Kd.R_mono (ok' := (fun k_ => ((fun k_ => some k_ ≠ (v157 : Value).ownBlock ∧ some k_ ≠ (v160 : Value).ownBlock ∧ k_ ≠ gb154)) k_ ∧ some k_ ≠ (u8 : Value).ownBlock)) (Kd.R_types (Kd.R_apart' (Kd.R_apart' (Kd.R_apart' (HO164.out) (Kd.R_typed HO158.out) (by decide)) (Kd.R_typed HO161.out) (by decide)) (Kd.N_typed HO_8.out) (by decide)) BK154.out (by decide)) (fun k_ hk => ⟨⟨hk.1.1.1.2, ⟨hk.1.1.2, hk.2⟩⟩, hk.1.2⟩))); (case aB => exact (by repeat (first | (with_reducible first | exact HB.out | apply below_alloc | apply pw_below_drewN | apply below_drew1 | refine below_set ?_ GE154.out) | exact HB.out))); (case aF => exact (fun k_ hk => ⟨Kd.fresh' (Kd.R_lt (by (with_reducible repeat (first | apply Kd.R_alloc | apply Kd.R_drewN | apply Kd.R_drew)); exact HO158.out)) k_ hk, Kd.fresh' (Kd.R_lt (by (with_reducible repeat (first | apply Kd.R_alloc | apply Kd.R_drewN | apply Kd.R_drew)); exact HO161.out)) k_ hk, Kd.freshB (g := gb154) (o := .cells #[.string ((rd_T31 l0 x9_1).f0), .int .i64 ((rd_T31 l0 x9_1).f1), .int .i64 ((rd_T31 l0 x9_1).f2)] 31 (0, 0)) (by (with_reducible repeat (first | refine blk_drewN ?_ _ | refine blk_drew ?_ | refine blk_alloc ?_ _)); exact BK154.out) k_ hk⟩)); (case aO => exact (by (with_reducible repeat (first | apply Kd.N_alloc | apply Kd.N_drewN | apply Kd.N_drew)); exact Kd.N_mono HO_8.out (fun _ hk => ⟨hk.1.1, ⟨hk.1.2.1, hk.1.2.2⟩⟩))); (case aS => exact (below_size (by repeat (first | (with_reducible first | exact HB.out | apply below_alloc | apply pw_below_drewN | apply below_drew1 | refine below_set ?_ GE154.out) | exact HB.out)))); (case aL => have := LMc48.out; omega); intro v173 w61 ho hb hg hat; rw [← Ny172.out] at ho; have n0_ := Aside0.mk (blk_grown (g := gb154) (o := .cells #[.string ((rd_T31 l0 x9_1).f0), .int .i64 ((rd_T31 l0 x9_1).f1), .int .i64 ((rd_T31 l0 x9_1).f2)] 31 (0, 0)) (by (with_reducible repeat (first | refine blk_drewN ?_ _ | refine blk_drew ?_ | refine blk_alloc ?_ _)); exact BK154.out) hg (Kd.N_ne HO_8.out BK154.out (by decide))); have n1_ := Aside0.mk (Kd.R_over' (by (with_reducible repeat (first | apply Kd.R_alloc | apply Kd.R_drewN | apply Kd.R_drew)); exact HO158.out) (Kd.N_typed (by (with_reducible repeat (first | apply Kd.N_alloc | apply Kd.N_drewN | apply Kd.N_drew)); exact HO_8.out)) (by decide) hg); have n2_ := Aside0.mk (Kd.R_over' (by (with_reducible repeat (first | apply Kd.R_alloc | apply Kd.R_drewN | apply Kd.R_drew)); exact HO161.out) (Kd.N_typed (by (with_reducible repeat (first | apply Kd.N_alloc | apply Kd.N_drewN | apply Kd.N_drew)); exact HO_8.out)) (by decide) hg); have n3_ := Aside0.mk (hb); have n4_ := Aside0.mk (ho); clear BK154; clear HO158; clear HO161; clear HB; clear HO_8; clear HO164; have BK154 := n0_; have HO158 := n1_; have HO161 := n2_; have HB := n3_; have HO174 := n4_; clear n0_ n1_ n2_ n3_ n4_; clear ho hb hg hat))
                                go_roundg kj13
                                case measure => have := HK1.out; have := HJ13.out; omega
                                case rel => exact ⟨(y156), (y159), (y172), (wrap64 (x9_1 + 1)), (by first | rfl | (simp; done) | (simp [*]; done)), H', ⟨by have := HK1.out; have := HJ13.out; omega⟩, ⟨by (with_reducible repeat (first | apply Kd.R_alloc | apply Kd.R_drewN | apply Kd.R_drew)); exact Kd.R_mono HO158.out (fun _ hk => hk.2)⟩, ⟨by (with_reducible repeat (first | apply Kd.R_alloc | apply Kd.R_drewN | apply Kd.R_drew)); exact HO161.out⟩, ⟨by (with_reducible repeat (first | apply Kd.N_alloc | apply Kd.N_drewN | apply Kd.N_drew)); exact Kd.N_mono HO174.out (fun _ hk => ⟨hk.1, hk.2.1⟩)⟩, ⟨by repeat (first | (with_reducible first | exact HB.out | apply below_alloc | apply pw_below_drewN | apply below_drew1 | refine below_set ?_ GE154.out) | exact HB.out)⟩⟩
                              · rw [if_neg c48] at H
                                exact absurd H (by simp)
                          · rw [if_neg c25] at H
                            exact absurd H (by simp)
                        · rw [if_neg c23] at H
                          have c23b0 : decide (0 < ((rd_T31 l0 x9_1).f1)) = false := decide_eq_false c23
                          clear c23
                          by_cases c62 : ((rd_T31 l0 x9_1).f2) > 0
                          · rw [if_pos c62] at H
                            have c62b0 : decide (0 < ((rd_T31 l0 x9_1).f2)) = true := decide_eq_true c62
                            clear c62
                            replace H := Option.bind_eq_some_iff.mp H
                            obtain ⟨t175, A630, H⟩ := H
                            replace H : (if 2 < (y162.length : Int) then (if x8_1.length < 5864062014805 then (daybookref17_Trial.l0 kj13 l0 a1 y156 y159 (x8_1 ++ [(y162.set (2 : Int).toNat t175)]) (wrap64 (x9_1 + 1))) else (none)) else (none)) = some (r1, r2) := H
                            have A63 := Aside0.mk A630
                            clear A630
                            by_cases c64 : 2 < (y162.length : Int)
                            · rw [if_pos c64] at H
                              have c64b0 : decide (2 < (y162.length : Int)) = true := decide_eq_true c64
                              have c64b1 : decide (2 < y162.length) = true := decide_eq_true (by omega)
                              clear c64
                              obtain ⟨y176, hy176⟩ : ∃ y_ : List ByteArray, y_ = (y162.set (2 : Int).toNat t175) := ⟨_, rfl⟩
                              replace H : (if x8_1.length < 5864062014805 then (daybookref17_Trial.l0 kj13 l0 a1 y156 y159 (x8_1 ++ [y176]) (wrap64 (x9_1 + 1))) else (none)) = some (r1, r2) := by first | (rw [hy176]; with_reducible exact H) | (have H2_ := (Option.bind_some _ _).symm.trans H; rw [hy176]; with_reducible exact H2_) | (have H2_ := (Option.bind_some _ _).symm.trans H; with_reducible exact H2_) | with_reducible exact H | (rw [hy176]; exact H) | exact H
                              have Ny176 := Aside0.mk hy176
                              clear hy176
                              by_cases c66 : x8_1.length < 5864062014805
                              · rw [if_pos c66] at H
                                have LMc66 := Aside0.mk c66
                                clear c66
                                obtain ⟨y177, hy177⟩ : ∃ y_ : List (List ByteArray), y_ = (x8_1 ++ [y176]) := ⟨_, rfl⟩
                                replace H : (daybookref17_Trial.l0 kj13 l0 a1 y156 y159 y177 (wrap64 (x9_1 + 1))) = some (r1, r2) := by first | (rw [hy177]; with_reducible exact H) | (have H2_ := (Option.bind_some _ _).symm.trans H; rw [hy177]; with_reducible exact H2_) | (have H2_ := (Option.bind_some _ _).symm.trans H; with_reducible exact H2_) | with_reducible exact H | (rw [hy177]; exact H) | exact H
                                have Ny177 := Aside0.mk hy177
                                clear hy177
                                have H' := Aside0.mk H
                                clear H
                                have hcz67_0 : wc.cell? ⟨gb154, 0, none⟩ = some (.string ((rd_T31 l0 x9_1).f0)) := (blk_cell BK154.out 0).trans rfl
                                have hcz67_1 : wc.cell? ⟨gb154, 1, none⟩ = some (.int .i64 ((rd_T31 l0 x9_1).f1)) := (blk_cell BK154.out 1).trans rfl
                                have hcz67_2 : wc.cell? ⟨gb154, 2, none⟩ = some (.int .i64 ((rd_T31 l0 x9_1).f2)) := (blk_cell BK154.out 2).trans rfl
                                have hfz67_0 := blk_frozen BK154.out 0
                                have hfz67_1 := blk_frozen BK154.out 1
                                have hfz67_2 := blk_frozen BK154.out 2
                                go_wp2_with (first | ((with_reducible refine gate_builtin (b := .append) (xs := #[.tmp 43, .tmp 46]) rfl ?_); at_builtin; refine Kd.R_append (Kd.int .i64) (w0 := w) w.heap.size rfl (.tmp 43) (.tmp 46) 78 2 (.int .i64 0) 8 rfl Tryz.underlying78 info2 rfl (by decide) (by omega) u6 x6_1 ((rd_T31 l0 x9_1).f1) [.int .i64 ((rd_T31 l0 x9_1).f1)] (fun k_ => some k_ ≠ (u7 : Value).ownBlock) (fun _ => False) rfl rfl ?aP (fun _ hk => hk.elim) ?aF ?aO ?aB ?aS ?aL ?_; (case aP => exact rfl); (case aB => exact (by repeat (first | (with_reducible first | exact HB.out | apply below_alloc | apply pw_below_drewN | apply below_drew1 | refine below_set ?_ GE154.out) | exact HB.out))); (case aF => exact (fun k_ hk => Kd.fresh' (Kd.R_lt (by (with_reducible repeat (first | apply Kd.R_alloc | apply Kd.R_drewN | apply Kd.R_drew)); exact HO_7.out)) k_ hk)); (case aO => exact (by (with_reducible repeat (first | apply Kd.R_alloc | apply Kd.R_drewN | apply Kd.R_drew)); exact HO_6.out)); (case aS => exact (below_size (by repeat (first | (with_reducible first | exact HB.out | apply below_alloc | apply pw_below_drewN | apply below_drew1 | refine below_set ?_ GE154.out) | exact HB.out)))); (case aL => have := LMc21.out; omega); intro v157 w68 ho hb hg hat; rw [← Ny156.out] at ho; have n0_ := Aside0.mk (Kd.R_after (ok := (fun _ => True)) (by (with_reducible repeat (first | apply Kd.R_alloc | apply Kd.R_drewN | apply Kd.R_drew)); exact Kd.R_mono HO_7.out (fun _ hk => ⟨trivial, hk⟩)) hg hat); have n1_ := Aside0.mk (Kd.N_afterv (ok := (fun k_ => some k_ ≠ (u7 : Value).ownBlock ∧ k_ ≠ gb154)) (by (with_reducible repeat (first | apply Kd.N_alloc | apply Kd.N_drewN | apply Kd.N_drew)); exact Kd.N_mono HO_8.out (fun _ hk => ⟨⟨hk.2.1, hk.2.2⟩, hk.1⟩)) hg hat); have n2_ := Aside0.mk (blk_grown (g := gb154) (o := .cells #[.string ((rd_T31 l0 x9_1).f0), .int .i64 ((rd_T31 l0 x9_1).f1), .int .i64 ((rd_T31 l0 x9_1).f2)] 31 (0, 0)) (by (with_reducible repeat (first | refine blk_drewN ?_ _ | refine blk_drew ?_ | refine blk_alloc ?_ _)); exact BK154.out) hg (Kd.R_ne HO_6.out BK154.out (by decide))); have n3_ := Aside0.mk (hb); have n4_ := Aside0.mk (ho); clear HO_7; clear HO_8; clear BK154; clear HB; clear HO_6; have HO_7 := n0_; have HO_8 := n1_; have BK154 := n2_; have HB := n3_; have HO158 := n4_; clear n0_ n1_ n2_ n3_ n4_; clear ho hb hg hat; have hcz69_0 : w68.cell? ⟨gb154, 0, none⟩ = some (.string ((rd_T31 l0 x9_1).f0)) := (blk_cell BK154.out 0).trans rfl; have hcz69_1 : w68.cell? ⟨gb154, 1, none⟩ = some (.int .i64 ((rd_T31 l0 x9_1).f1)) := (blk_cell BK154.out 1).trans rfl; have hcz69_2 : w68.cell? ⟨gb154, 2, none⟩ = some (.int .i64 ((rd_T31 l0 x9_1).f2)) := (blk_cell BK154.out 2).trans rfl; have hfz69_0 := blk_frozen BK154.out 0; have hfz69_1 := blk_frozen BK154.out 1; have hfz69_2 := blk_frozen BK154.out 2) | ((with_reducible refine gate_builtin (b := .append) (xs := #[.tmp 48, .tmp 51]) rfl ?_); at_builtin; refine Kd.R_append (Kd.int .i64) (w0 := w) w.heap.size rfl (.tmp 48) (.tmp 51) 78 2 (.int .i64 0) 8 rfl Tryz.underlying78 info2 rfl (by decide) (by omega) u7 x7_1 ((rd_T31 l0 x9_1).f2) [.int .i64 ((rd_T31 l0 x9_1).f2)] (fun k_ => some k_ ≠ (v157 : Value).ownBlock) (fun _ => False) rfl rfl ?aP (fun _ hk => hk.elim) ?aF ?aO ?aB ?aS ?aL ?_; (case aP => exact rfl); (case aB => exact (by repeat (first | (with_reducible first | exact HB.out | apply below_alloc | apply pw_below_drewN | apply below_drew1 | refine below_set ?_ GE154.out) | exact HB.out))); (case aF => exact (fun k_ hk => Kd.fresh' (Kd.R_lt (by (with_reducible repeat (first | apply Kd.R_alloc | apply Kd.R_drewN | apply Kd.R_drew)); exact HO158.out)) k_ hk)); (case aO => exact (by (with_reducible repeat (first | apply Kd.R_alloc | apply Kd.R_drewN | apply Kd.R_drew)); exact Kd.R_mono HO_7.out (fun _ hk => hk.2))); (case aS => exact (below_size (by repeat (first | (with_reducible first | exact HB.out | apply below_alloc | apply pw_below_drewN | apply below_drew1 | refine below_set ?_ GE154.out) | exact HB.out)))); (case aL => have := LMc22.out; omega); intro v160 w70 ho hb hg hat; rw [← Ny159.out] at ho; have n0_ := Aside0.mk (Kd.N_afterv (ok := (fun k_ => some k_ ≠ (v157 : Value).ownBlock ∧ k_ ≠ gb154)) (by (with_reducible repeat (first | apply Kd.N_alloc | apply Kd.N_drewN | apply Kd.N_drew)); exact Kd.N_mono HO_8.out (fun _ hk => ⟨⟨hk.2, hk.1.2⟩, hk.1.1⟩)) hg hat); have n1_ := Aside0.mk (blk_grown (g := gb154) (o := .cells #[.string ((rd_T31 l0 x9_1).f0), .int .i64 ((rd_T31 l0 x9_1).f1), .int .i64 ((rd_T31 l0 x9_1).f2)] 31 (0, 0)) (by (with_reducible repeat (first | refine blk_drewN ?_ _ | refine blk_drew ?_ | refine blk_alloc ?_ _)); exact BK154.out) hg (Kd.R_ne HO_7.out BK154.out (by decide))); have n2_ := Aside0.mk (Kd.R_after (ok := (fun _ => True)) (by (with_reducible repeat (first | apply Kd.R_alloc | apply Kd.R_drewN | apply Kd.R_drew)); exact Kd.R_mono HO158.out (fun _ hk => ⟨trivial, hk⟩)) hg hat); have n3_ := Aside0.mk (hb); have n4_ := Aside0.mk (ho); clear HO_8; clear BK154; clear HO158; clear HB; clear HO_7; have HO_8 := n0_; have BK154 := n1_; have HO158 := n2_; have HB := n3_; have HO161 := n4_; clear n0_ n1_ n2_ n3_ n4_; clear ho hb hg hat; have hcz71_0 : w70.cell? ⟨gb154, 0, none⟩ = some (.string ((rd_T31 l0 x9_1).f0)) := (blk_cell BK154.out 0).trans rfl; have hcz71_1 : w70.cell? ⟨gb154, 1, none⟩ = some (.int .i64 ((rd_T31 l0 x9_1).f1)) := (blk_cell BK154.out 1).trans rfl; have hcz71_2 : w70.cell? ⟨gb154, 2, none⟩ = some (.int .i64 ((rd_T31 l0 x9_1).f2)) := (blk_cell BK154.out 2).trans rfl; have hfz71_0 := blk_frozen BK154.out 0; have hfz71_1 := blk_frozen BK154.out 1; have hfz71_2 := blk_frozen BK154.out 2) | ((with_reducible refine gate_dst (N := 55) rfl ?_); refine Kd.R_lit Kd.string _ 9 ?hg (N := 55) ?hd (xs := ([((rd_T31 l0 x9_1).f0), (⟨#[]⟩ : ByteArray), (⟨#[]⟩ : ByteArray)] : List ByteArray)) (inner := [.string ((rd_T31 l0 x9_1).f0), .string (⟨#[]⟩ : ByteArray), .string (⟨#[]⟩ : ByteArray)]) (ok := fun _ => True) (okp := fun _ => True) ?hr ?hp (fun _ hk => hk) trivial (Below.refl _ _) (Nat.le_refl _) (by simp) ?_; (case hd => rfl); (case hg => rfl); (case hr => first | (go_simp; done) | (go_simp; rfl)); (case hp => exact (Reps.one (show Kd.M Kd.string _ _ _ ((rd_T31 l0 x9_1).f0) [.string ((rd_T31 l0 x9_1).f0)] from rfl) (Reps.one (show Kd.M Kd.string _ _ _ (⟨#[]⟩ : ByteArray) [.string (⟨#[]⟩ : ByteArray)] from rfl) (Reps.one (show Kd.M Kd.string _ _ _ (⟨#[]⟩ : ByteArray) [.string (⟨#[]⟩ : ByteArray)] from rfl) (Reps.none _ _))))); intro v163 w72 ho73 hb hg_ hnew_; clear hg_ hnew_; (first | rw [← Ny162.out] at ho73 | (simp only [Int.reduceToNat] at ho73; rw [← Ny162.out] at ho73)); have n0_ := Aside0.mk (Kd.N_elder' (by (with_reducible repeat (first | apply Kd.N_alloc | apply Kd.N_drewN | apply Kd.N_drew)); exact HO_8.out) (Kd.R_base ho73) hb); have n1_ := Aside0.mk (Kd.R_below (by (with_reducible repeat (first | apply Kd.R_alloc | apply Kd.R_drewN | apply Kd.R_drew)); exact HO158.out) hb); have n2_ := Aside0.mk (Kd.R_below (by (with_reducible repeat (first | apply Kd.R_alloc | apply Kd.R_drewN | apply Kd.R_drew)); exact HO161.out) hb); have n3_ := Aside0.mk (Kd.R_lower ho73 (below_size (by repeat (first | (with_reducible first | exact HB.out | apply below_alloc | apply pw_below_drewN | apply below_drew1 | refine below_set ?_ GE154.out) | exact HB.out)))); have n4_ := Aside0.mk (blk_below (g := gb154) (o := .cells #[.string ((rd_T31 l0 x9_1).f0), .int .i64 ((rd_T31 l0 x9_1).f1), .int .i64 ((rd_T31 l0 x9_1).f2)] 31 (0, 0)) (by (with_reducible repeat (first | refine blk_drewN ?_ _ | refine blk_drew ?_ | refine blk_alloc ?_ _)); exact BK154.out) hb); have n5_ := Aside0.mk (below_step (by repeat (first | (with_reducible first | exact HB.out | apply below_alloc | apply pw_below_drewN | apply below_drew1 | refine below_set ?_ GE154.out) | exact HB.out)) hb); clear HO_8; clear HO158; clear HO161; clear BK154; clear HB; have HO_8 := n0_; have HO158 := n1_; have HO161 := n2_; have HO164 := n3_; have BK154 := n4_; have HB := n5_; clear n0_ n1_ n2_ n3_ n4_ n5_; clear hb ho73; have hcz74_0 : w72.cell? ⟨gb154, 0, none⟩ = some (.string ((rd_T31 l0 x9_1).f0)) := (blk_cell BK154.out 0).trans rfl; have hcz74_1 : w72.cell? ⟨gb154, 1, none⟩ = some (.int .i64 ((rd_T31 l0 x9_1).f1)) := (blk_cell BK154.out 1).trans rfl; have hcz74_2 : w72.cell? ⟨gb154, 2, none⟩ = some (.int .i64 ((rd_T31 l0 x9_1).f2)) := (blk_cell BK154.out 2).trans rfl; have hfz74_0 := blk_frozen BK154.out 0; have hfz74_1 := blk_frozen BK154.out 1; have hfz74_2 := blk_frozen BK154.out 2) | ((with_reducible refine gate_callee (f := 50) rfl ?_); refine goesL_ (some 72) rfl rfl Tryz.func50 (by kernel_rfl) rfl #[.int .i64 ((rd_T31 l0 x9_1).f2), .int .i64 a1] rfl (by (try simp only [List.map_toArray, List.map_cons, List.map_nil]); first | done | rfl | (simp only [List.length_drop, List.length_take]; rfl)) ?_; (with_reducible refine (daybookref17_money.calls kj13 ((rd_T31 l0 x9_1).f2) a1 t175 _ A63.out).mono ?_); rintro e w75 ⟨rfl, hb⟩; refine ⟨_, rfl, ?_⟩; have n0_ := Aside0.mk (Kd.N_below (by (with_reducible repeat (first | apply Kd.N_alloc | apply Kd.N_drewN | apply Kd.N_drew)); exact HO_8.out) hb); have n1_ := Aside0.mk (Kd.R_below (by (with_reducible repeat (first | apply Kd.R_alloc | apply Kd.R_drewN | apply Kd.R_drew)); exact HO158.out) hb); have n2_ := Aside0.mk (Kd.R_below (by (with_reducible repeat (first | apply Kd.R_alloc | apply Kd.R_drewN | apply Kd.R_drew)); exact HO161.out) hb); have n3_ := Aside0.mk (Kd.R_below (by (with_reducible repeat (first | apply Kd.R_alloc | apply Kd.R_drewN | apply Kd.R_drew)); exact HO164.out) hb); have n4_ := Aside0.mk (blk_below (g := gb154) (o := .cells #[.string ((rd_T31 l0 x9_1).f0), .int .i64 ((rd_T31 l0 x9_1).f1), .int .i64 ((rd_T31 l0 x9_1).f2)] 31 (0, 0)) (by (with_reducible repeat (first | refine blk_drewN ?_ _ | refine blk_drew ?_ | refine blk_alloc ?_ _)); exact BK154.out) hb); have n5_ := Aside0.mk (below_step (by repeat (first | (with_reducible first | exact HB.out | apply below_alloc | apply pw_below_drewN | apply below_drew1 | refine below_set ?_ GE154.out) | exact HB.out)) hb); clear HO_8; clear HO158; clear HO161; clear HO164; clear BK154; clear HB; have HO_8 := n0_; have HO158 := n1_; have HO161 := n2_; have HO164 := n3_; have BK154 := n4_; have HB := n5_; clear n0_ n1_ n2_ n3_ n4_ n5_; (try clear hb); (try clear hb2); (try clear hk); (try clear hi); have p65 : 0 ≤ (2 : Int) := (by omega); have q65 : (2 : Int) < ((y162.length : Int) : Int) := of_decide_eq_true (by first | (with_reducible assumption) | assumption); have qi65 : (2 < y162.length) = True := eq_true (by omega); obtain ⟨go65, co65, eo65, gb65, gl65, cl65, HG65⟩ := Kd.R_form HO164.out (by omega); (first | cases eo65 | (injection eo65 with ea_ en_ ec_; (first | subst ea_ | (injection ea_ with ea_; subst ea_)); subst ec_; clear en_)); have GB65 := Aside0.mk gb65; have GG65 := Aside0.mk HG65; clear gb65 gl65 HG65; obtain ⟨hx65_0, hf65_0⟩ := Kd.R_celln (⟨#[]⟩ : ByteArray) HO164.out (2 : Int) p65 q65; (try rw [show ((2 : Int)).toNat = 2 from rfl] at hx65_0); (try simp only [Nat.reduceMul, Nat.zero_mul, Nat.zero_add, Nat.reduceAdd] at hx65_0); (try rw [show ((2 : Int)).toNat = 2 from rfl] at hf65_0); (try simp only [Nat.reduceMul, Nat.zero_mul, Nat.zero_add, Nat.reduceAdd] at hf65_0); replace p65 := eq_true p65; replace q65 := eq_true q65; obtain ⟨hy76_, hz76_⟩ := Kd.R_celln (⟨#[]⟩ : ByteArray) HO164.out (2 : Int) (by omega) (of_decide_eq_true (by first | (with_reducible assumption) | assumption)); (try simp only [Int.reduceToNat, Int.toNat_zero, Int.toNat_ofNat, Nat.reduceMul, Nat.zero_mul, Nat.zero_add] at hy76_ hz76_); (try rw [show ((2 : Int)).toNat = 2 from rfl] at hy76_); (try rw [show ((2 : Int)).toNat = 2 from rfl] at hz76_); have HP76 := Kd.R_putg HO164.out (2 : Int) t175) | ((with_reducible refine gate_store (t := 9) (p := 73) rfl ?_); refine store_event (t := 9) (p := 73) (v := ?vo_w77) (w1 := (w75.setCell ⟨go65, (2 : Int).toNat, none⟩ (.string t175))) ?hg ?ho ?hn ?hr ?_; (case ho => rfl); (case hg => rfl); (case hn => rfl); (case hr => first | (go_simp; done) | (go_simp; rfl)); intro w77 hw; have hg : w75.grownBy w77 (some go65) := (by rw [hw]; exact HP76.2); have hp_ : Kd.R Kd.string 9 w77 w.heap.size (fun _ => True) (.slice (some ⟨go65, 0, none⟩) y162.length co65) y176 := (by rw [hw, Ny176.out]; exact HP76.1); clear HP76; have n0_ := Aside0.mk (Kd.N_afterv (v := (.slice (some ⟨go65, 0, none⟩) y162.length co65)) (v1 := (.slice (some ⟨go65, 0, none⟩) y162.length co65)) (ok := (fun k_ => some k_ ≠ (v157 : Value).ownBlock ∧ some k_ ≠ (v160 : Value).ownBlock ∧ k_ ≠ gb154)) (by (with_reducible repeat (first | apply Kd.N_alloc | apply Kd.N_drewN | apply Kd.N_drew)); exact Kd.N_mono HO_8.out (fun _ hk => ⟨⟨hk.1.1.1, ⟨hk.1.2, hk.1.1.2⟩⟩, hk.2⟩)) hg (.inl rfl)); have n1_ := Aside0.mk (blk_grown (g := gb154) (o := .cells #[.string ((rd_T31 l0 x9_1).f0), .int .i64 ((rd_T31 l0 x9_1).f1), .int .i64 ((rd_T31 l0 x9_1).f2)] 31 (0, 0)) (by (with_reducible repeat (first | refine blk_drewN ?_ _ | refine blk_drew ?_ | refine blk_alloc ?_ _)); exact BK154.out) hg (Kd.R_ne HO164.out BK154.out (by decide))); have n2_ := Aside0.mk (Kd.R_over' (v := (.slice (some ⟨go65, 0, none⟩) y162.length co65)) (by (with_reducible repeat (first | apply Kd.R_alloc | apply Kd.R_drewN | apply Kd.R_drew)); exact HO158.out) (Kd.R_typed HO164.out) (by decide) hg); have n3_ := Aside0.mk (Kd.R_over' (v := (.slice (some ⟨go65, 0, none⟩) y162.length co65)) (by (with_reducible repeat (first | apply Kd.R_alloc | apply Kd.R_drewN | apply Kd.R_drew)); exact HO161.out) (Kd.R_typed HO164.out) (by decide) hg); have n4_ := Aside0.mk (hp_); have n5_ := Aside0.mk ((by rw [hw]; exact below_set (HB.out) GB65.out : Below w.heap.size w w77)); clear HO_8; clear BK154; clear HO158; clear HO161; clear HO164; clear HB; have HO_8 := n0_; have BK154 := n1_; have HO158 := n2_; have HO161 := n3_; have HO164 := n4_; have HB := n5_; clear n0_ n1_ n2_ n3_ n4_ n5_; clear hg hw hp_) | ((with_reducible refine gate_builtin (b := .append) (xs := #[.tmp 74, .tmp 76]) rfl ?_); at_builtin; refine Kd.N_append (Kd.slice 9 Kd.string) (w0 := w) w.heap.size rfl (.tmp 74) (.tmp 76) 80 90 (.slice none 0 0) 24 rfl Tryz.underlying80 info90 rfl (by decide) (by omega) u8 x8_1 y176 [.slice (some ⟨go65, 0, none⟩) y162.length co65] (fun k_ => some k_ ≠ (v157 : Value).ownBlock ∧ some k_ ≠ (v160 : Value).ownBlock ∧ k_ ≠ gb154) (fun k_ => ((fun k_ => some k_ ≠ (v157 : Value).ownBlock ∧ some k_ ≠ (v160 : Value).ownBlock ∧ k_ ≠ gb154)) k_ ∧ some k_ ≠ (u8 : Value).ownBlock) rfl rfl ?aP (fun _ hk => hk) ?aF ?aO ?aB ?aS ?aL ?_; (case aP => first | exact (Kd.FK_slice_mk (Kd.R_reads' (Kd.R_mono (ok' := (fun k_ => ((fun k_ => some k_ ≠ (v157 : Value).ownBlock ∧ some k_ ≠ (v160 : Value).ownBlock ∧ k_ ≠ gb154)) k_ ∧ some k_ ≠ (u8 : Value).ownBlock)) (Kd.R_types (Kd.R_apart' (Kd.R_apart' (Kd.R_apart' (HO164.out) (Kd.R_typed HO158.out) (by decide)) (Kd.R_typed HO161.out) (by decide)) (Kd.N_typed HO_8.out) (by decide)) BK154.out (by decide)) (fun k_ hk => ⟨⟨hk.1.1.1.2, ⟨hk.1.1.2, hk.2⟩⟩, hk.1.2⟩))).2.1 (Kd.R_F (Kd.R_mono (ok' := (fun k_ => ((fun k_ => some k_ ≠ (v157 : Value).ownBlock ∧ some k_ ≠ (v160 : Value).ownBlock ∧ k_ ≠ gb154)) k_ ∧ some k_ ≠ (u8 : Value).ownBlock)) (Kd.R_types (Kd.R_apart' (Kd.R_apart' (Kd.R_apart' (HO164.out) (Kd.R_typed HO158.out) (by decide)) (Kd.R_typed HO161.out) (by decide)) (Kd.N_typed HO_8.out) (by decide)) BK154.out (by decide)) (fun k_ hk => ⟨⟨hk.1.1.1.2, ⟨hk.1.1.2, hk.2⟩⟩, hk.1.2⟩)))) | exact fk_row6 (Kd.R_mono (ok' := (fun k_ => ((fun k_ => some k_ ≠ (v157 : Value).ownBlock ∧ some k_ ≠ (v160 : Value).ownBlock ∧ k_ ≠ gb154)) k_ ∧ some k_ ≠ (u8 : Value).ownBlock)) (Kd.R_types (Kd.R_apart' (Kd.R_apart' (Kd.R_apart' (HO164.out) (Kd.R_typed HO158.out) (by decide)) (Kd.R_typed HO161.out) (by decide)) (Kd.N_typed HO_8.out) (by decide)) BK154.out (by decide)) (fun k_ hk => ⟨⟨hk.1.1.1.2, ⟨hk.1.1.2, hk.2⟩⟩, hk.1.2⟩))); (case aB => exact (by repeat (first | (with_reducible first | exact HB.out | apply below_alloc | apply pw_below_drewN | apply below_drew1 | refine below_set ?_ GE154.out) | exact HB.out))); (case aF => exact (fun k_ hk => ⟨Kd.fresh' (Kd.R_lt (by (with_reducible repeat (first | apply Kd.R_alloc | apply Kd.R_drewN | apply Kd.R_drew)); exact HO158.out)) k_ hk, Kd.fresh' (Kd.R_lt (by (with_reducible repeat (first | apply Kd.R_alloc | apply Kd.R_drewN | apply Kd.R_drew)); exact HO161.out)) k_ hk, Kd.freshB (g := gb154) (o := .cells #[.string ((rd_T31 l0 x9_1).f0), .int .i64 ((rd_T31 l0 x9_1).f1), .int .i64 ((rd_T31 l0 x9_1).f2)] 31 (0, 0)) (by (with_reducible repeat (first | refine blk_drewN ?_ _ | refine blk_drew ?_ | refine blk_alloc ?_ _)); exact BK154.out) k_ hk⟩)); (case aO => exact (by (with_reducible repeat (first | apply Kd.N_alloc | apply Kd.N_drewN | apply Kd.N_drew)); exact Kd.N_mono HO_8.out (fun _ hk => ⟨hk.1.1, ⟨hk.1.2.1, hk.1.2.2⟩⟩))); (case aS => exact (below_size (by repeat (first | (with_reducible first | exact HB.out | apply below_alloc | apply pw_below_drewN | apply below_drew1 | refine below_set ?_ GE154.out) | exact HB.out)))); (case aL => have := LMc66.out; omega); intro v178 w78 ho hb hg hat; rw [← Ny177.out] at ho; have n0_ := Aside0.mk (blk_grown (g := gb154) (o := .cells #[.string ((rd_T31 l0 x9_1).f0), .int .i64 ((rd_T31 l0 x9_1).f1), .int .i64 ((rd_T31 l0 x9_1).f2)] 31 (0, 0)) (by (with_reducible repeat (first | refine blk_drewN ?_ _ | refine blk_drew ?_ | refine blk_alloc ?_ _)); exact BK154.out) hg (Kd.N_ne HO_8.out BK154.out (by decide))); have n1_ := Aside0.mk (Kd.R_over' (by (with_reducible repeat (first | apply Kd.R_alloc | apply Kd.R_drewN | apply Kd.R_drew)); exact HO158.out) (Kd.N_typed (by (with_reducible repeat (first | apply Kd.N_alloc | apply Kd.N_drewN | apply Kd.N_drew)); exact HO_8.out)) (by decide) hg); have n2_ := Aside0.mk (Kd.R_over' (by (with_reducible repeat (first | apply Kd.R_alloc | apply Kd.R_drewN | apply Kd.R_drew)); exact HO161.out) (Kd.N_typed (by (with_reducible repeat (first | apply Kd.N_alloc | apply Kd.N_drewN | apply Kd.N_drew)); exact HO_8.out)) (by decide) hg); have n3_ := Aside0.mk (hb); have n4_ := Aside0.mk (ho); clear BK154; clear HO158; clear HO161; clear HB; clear HO_8; clear HO164; have BK154 := n0_; have HO158 := n1_; have HO161 := n2_; have HB := n3_; have HO179 := n4_; clear n0_ n1_ n2_ n3_ n4_; clear ho hb hg hat))
                                go_roundg kj13
                                case measure => have := HK1.out; have := HJ13.out; omega
                                case rel => exact ⟨(y156), (y159), (y177), (wrap64 (x9_1 + 1)), (by first | rfl | (simp; done) | (simp [*]; done)), H', ⟨by have := HK1.out; have := HJ13.out; omega⟩, ⟨by (with_reducible repeat (first | apply Kd.R_alloc | apply Kd.R_drewN | apply Kd.R_drew)); exact Kd.R_mono HO158.out (fun _ hk => hk.2)⟩, ⟨by (with_reducible repeat (first | apply Kd.R_alloc | apply Kd.R_drewN | apply Kd.R_drew)); exact HO161.out⟩, ⟨by (with_reducible repeat (first | apply Kd.N_alloc | apply Kd.N_drewN | apply Kd.N_drew)); exact Kd.N_mono HO179.out (fun _ hk => ⟨hk.1, hk.2.1⟩)⟩, ⟨by repeat (first | (with_reducible first | exact HB.out | apply below_alloc | apply pw_below_drewN | apply below_drew1 | refine below_set ?_ GE154.out) | exact HB.out)⟩⟩
                              · rw [if_neg c66] at H
                                exact absurd H (by simp)
                            · rw [if_neg c64] at H
                              exact absurd H (by simp)
                          · rw [if_neg c62] at H
                            have c62b0 : decide (0 < ((rd_T31 l0 x9_1).f2)) = false := decide_eq_false c62
                            clear c62
                            by_cases c79 : x8_1.length < 5864062014805
                            · rw [if_pos c79] at H
                              have LMc79 := Aside0.mk c79
                              clear c79
                              obtain ⟨y180, hy180⟩ : ∃ y_ : List (List ByteArray), y_ = (x8_1 ++ [y162]) := ⟨_, rfl⟩
                              replace H : (daybookref17_Trial.l0 kj13 l0 a1 y156 y159 y180 (wrap64 (x9_1 + 1))) = some (r1, r2) := by first | (rw [hy180]; with_reducible exact H) | (have H2_ := (Option.bind_some _ _).symm.trans H; rw [hy180]; with_reducible exact H2_) | (have H2_ := (Option.bind_some _ _).symm.trans H; with_reducible exact H2_) | with_reducible exact H | (rw [hy180]; exact H) | exact H
                              have Ny180 := Aside0.mk hy180
                              clear hy180
                              have H' := Aside0.mk H
                              clear H
                              have hcz80_0 : wc.cell? ⟨gb154, 0, none⟩ = some (.string ((rd_T31 l0 x9_1).f0)) := (blk_cell BK154.out 0).trans rfl
                              have hcz80_1 : wc.cell? ⟨gb154, 1, none⟩ = some (.int .i64 ((rd_T31 l0 x9_1).f1)) := (blk_cell BK154.out 1).trans rfl
                              have hcz80_2 : wc.cell? ⟨gb154, 2, none⟩ = some (.int .i64 ((rd_T31 l0 x9_1).f2)) := (blk_cell BK154.out 2).trans rfl
                              have hfz80_0 := blk_frozen BK154.out 0
                              have hfz80_1 := blk_frozen BK154.out 1
                              have hfz80_2 := blk_frozen BK154.out 2
                              go_wp2_with (first | ((with_reducible refine gate_builtin (b := .append) (xs := #[.tmp 43, .tmp 46]) rfl ?_); at_builtin; refine Kd.R_append (Kd.int .i64) (w0 := w) w.heap.size rfl (.tmp 43) (.tmp 46) 78 2 (.int .i64 0) 8 rfl Tryz.underlying78 info2 rfl (by decide) (by omega) u6 x6_1 ((rd_T31 l0 x9_1).f1) [.int .i64 ((rd_T31 l0 x9_1).f1)] (fun k_ => some k_ ≠ (u7 : Value).ownBlock) (fun _ => False) rfl rfl ?aP (fun _ hk => hk.elim) ?aF ?aO ?aB ?aS ?aL ?_; (case aP => exact rfl); (case aB => exact (by repeat (first | (with_reducible first | exact HB.out | apply below_alloc | apply pw_below_drewN | apply below_drew1 | refine below_set ?_ GE154.out) | exact HB.out))); (case aF => exact (fun k_ hk => Kd.fresh' (Kd.R_lt (by (with_reducible repeat (first | apply Kd.R_alloc | apply Kd.R_drewN | apply Kd.R_drew)); exact HO_7.out)) k_ hk)); (case aO => exact (by (with_reducible repeat (first | apply Kd.R_alloc | apply Kd.R_drewN | apply Kd.R_drew)); exact HO_6.out)); (case aS => exact (below_size (by repeat (first | (with_reducible first | exact HB.out | apply below_alloc | apply pw_below_drewN | apply below_drew1 | refine below_set ?_ GE154.out) | exact HB.out)))); (case aL => have := LMc21.out; omega); intro v157 w81 ho hb hg hat; rw [← Ny156.out] at ho; have n0_ := Aside0.mk (Kd.R_after (ok := (fun _ => True)) (by (with_reducible repeat (first | apply Kd.R_alloc | apply Kd.R_drewN | apply Kd.R_drew)); exact Kd.R_mono HO_7.out (fun _ hk => ⟨trivial, hk⟩)) hg hat); have n1_ := Aside0.mk (Kd.N_afterv (ok := (fun k_ => some k_ ≠ (u7 : Value).ownBlock ∧ k_ ≠ gb154)) (by (with_reducible repeat (first | apply Kd.N_alloc | apply Kd.N_drewN | apply Kd.N_drew)); exact Kd.N_mono HO_8.out (fun _ hk => ⟨⟨hk.2.1, hk.2.2⟩, hk.1⟩)) hg hat); have n2_ := Aside0.mk (blk_grown (g := gb154) (o := .cells #[.string ((rd_T31 l0 x9_1).f0), .int .i64 ((rd_T31 l0 x9_1).f1), .int .i64 ((rd_T31 l0 x9_1).f2)] 31 (0, 0)) (by (with_reducible repeat (first | refine blk_drewN ?_ _ | refine blk_drew ?_ | refine blk_alloc ?_ _)); exact BK154.out) hg (Kd.R_ne HO_6.out BK154.out (by decide))); have n3_ := Aside0.mk (hb); have n4_ := Aside0.mk (ho); clear HO_7; clear HO_8; clear BK154; clear HB; clear HO_6; have HO_7 := n0_; have HO_8 := n1_; have BK154 := n2_; have HB := n3_; have HO158 := n4_; clear n0_ n1_ n2_ n3_ n4_; clear ho hb hg hat; have hcz82_0 : w81.cell? ⟨gb154, 0, none⟩ = some (.string ((rd_T31 l0 x9_1).f0)) := (blk_cell BK154.out 0).trans rfl; have hcz82_1 : w81.cell? ⟨gb154, 1, none⟩ = some (.int .i64 ((rd_T31 l0 x9_1).f1)) := (blk_cell BK154.out 1).trans rfl; have hcz82_2 : w81.cell? ⟨gb154, 2, none⟩ = some (.int .i64 ((rd_T31 l0 x9_1).f2)) := (blk_cell BK154.out 2).trans rfl; have hfz82_0 := blk_frozen BK154.out 0; have hfz82_1 := blk_frozen BK154.out 1; have hfz82_2 := blk_frozen BK154.out 2) | ((with_reducible refine gate_builtin (b := .append) (xs := #[.tmp 48, .tmp 51]) rfl ?_); at_builtin; refine Kd.R_append (Kd.int .i64) (w0 := w) w.heap.size rfl (.tmp 48) (.tmp 51) 78 2 (.int .i64 0) 8 rfl Tryz.underlying78 info2 rfl (by decide) (by omega) u7 x7_1 ((rd_T31 l0 x9_1).f2) [.int .i64 ((rd_T31 l0 x9_1).f2)] (fun k_ => some k_ ≠ (v157 : Value).ownBlock) (fun _ => False) rfl rfl ?aP (fun _ hk => hk.elim) ?aF ?aO ?aB ?aS ?aL ?_; (case aP => exact rfl); (case aB => exact (by repeat (first | (with_reducible first | exact HB.out | apply below_alloc | apply pw_below_drewN | apply below_drew1 | refine below_set ?_ GE154.out) | exact HB.out))); (case aF => exact (fun k_ hk => Kd.fresh' (Kd.R_lt (by (with_reducible repeat (first | apply Kd.R_alloc | apply Kd.R_drewN | apply Kd.R_drew)); exact HO158.out)) k_ hk)); (case aO => exact (by (with_reducible repeat (first | apply Kd.R_alloc | apply Kd.R_drewN | apply Kd.R_drew)); exact Kd.R_mono HO_7.out (fun _ hk => hk.2))); (case aS => exact (below_size (by repeat (first | (with_reducible first | exact HB.out | apply below_alloc | apply pw_below_drewN | apply below_drew1 | refine below_set ?_ GE154.out) | exact HB.out)))); (case aL => have := LMc22.out; omega); intro v160 w83 ho hb hg hat; rw [← Ny159.out] at ho; have n0_ := Aside0.mk (Kd.N_afterv (ok := (fun k_ => some k_ ≠ (v157 : Value).ownBlock ∧ k_ ≠ gb154)) (by (with_reducible repeat (first | apply Kd.N_alloc | apply Kd.N_drewN | apply Kd.N_drew)); exact Kd.N_mono HO_8.out (fun _ hk => ⟨⟨hk.2, hk.1.2⟩, hk.1.1⟩)) hg hat); have n1_ := Aside0.mk (blk_grown (g := gb154) (o := .cells #[.string ((rd_T31 l0 x9_1).f0), .int .i64 ((rd_T31 l0 x9_1).f1), .int .i64 ((rd_T31 l0 x9_1).f2)] 31 (0, 0)) (by (with_reducible repeat (first | refine blk_drewN ?_ _ | refine blk_drew ?_ | refine blk_alloc ?_ _)); exact BK154.out) hg (Kd.R_ne HO_7.out BK154.out (by decide))); have n2_ := Aside0.mk (Kd.R_after (ok := (fun _ => True)) (by (with_reducible repeat (first | apply Kd.R_alloc | apply Kd.R_drewN | apply Kd.R_drew)); exact Kd.R_mono HO158.out (fun _ hk => ⟨trivial, hk⟩)) hg hat); have n3_ := Aside0.mk (hb); have n4_ := Aside0.mk (ho); clear HO_8; clear BK154; clear HO158; clear HB; clear HO_7; have HO_8 := n0_; have BK154 := n1_; have HO158 := n2_; have HB := n3_; have HO161 := n4_; clear n0_ n1_ n2_ n3_ n4_; clear ho hb hg hat; have hcz84_0 : w83.cell? ⟨gb154, 0, none⟩ = some (.string ((rd_T31 l0 x9_1).f0)) := (blk_cell BK154.out 0).trans rfl; have hcz84_1 : w83.cell? ⟨gb154, 1, none⟩ = some (.int .i64 ((rd_T31 l0 x9_1).f1)) := (blk_cell BK154.out 1).trans rfl; have hcz84_2 : w83.cell? ⟨gb154, 2, none⟩ = some (.int .i64 ((rd_T31 l0 x9_1).f2)) := (blk_cell BK154.out 2).trans rfl; have hfz84_0 := blk_frozen BK154.out 0; have hfz84_1 := blk_frozen BK154.out 1; have hfz84_2 := blk_frozen BK154.out 2) | ((with_reducible refine gate_dst (N := 55) rfl ?_); refine Kd.R_lit Kd.string _ 9 ?hg (N := 55) ?hd (xs := ([((rd_T31 l0 x9_1).f0), (⟨#[]⟩ : ByteArray), (⟨#[]⟩ : ByteArray)] : List ByteArray)) (inner := [.string ((rd_T31 l0 x9_1).f0), .string (⟨#[]⟩ : ByteArray), .string (⟨#[]⟩ : ByteArray)]) (ok := fun _ => True) (okp := fun _ => True) ?hr ?hp (fun _ hk => hk) trivial (Below.refl _ _) (Nat.le_refl _) (by simp) ?_; (case hd => rfl); (case hg => rfl); (case hr => first | (go_simp; done) | (go_simp; rfl)); (case hp => exact (Reps.one (show Kd.M Kd.string _ _ _ ((rd_T31 l0 x9_1).f0) [.string ((rd_T31 l0 x9_1).f0)] from rfl) (Reps.one (show Kd.M Kd.string _ _ _ (⟨#[]⟩ : ByteArray) [.string (⟨#[]⟩ : ByteArray)] from rfl) (Reps.one (show Kd.M Kd.string _ _ _ (⟨#[]⟩ : ByteArray) [.string (⟨#[]⟩ : ByteArray)] from rfl) (Reps.none _ _))))); intro v163 w85 ho86 hb hg_ hnew_; clear hg_ hnew_; (first | rw [← Ny162.out] at ho86 | (simp only [Int.reduceToNat] at ho86; rw [← Ny162.out] at ho86)); have n0_ := Aside0.mk (Kd.N_elder' (by (with_reducible repeat (first | apply Kd.N_alloc | apply Kd.N_drewN | apply Kd.N_drew)); exact HO_8.out) (Kd.R_base ho86) hb); have n1_ := Aside0.mk (Kd.R_below (by (with_reducible repeat (first | apply Kd.R_alloc | apply Kd.R_drewN | apply Kd.R_drew)); exact HO158.out) hb); have n2_ := Aside0.mk (Kd.R_below (by (with_reducible repeat (first | apply Kd.R_alloc | apply Kd.R_drewN | apply Kd.R_drew)); exact HO161.out) hb); have n3_ := Aside0.mk (Kd.R_lower ho86 (below_size (by repeat (first | (with_reducible first | exact HB.out | apply below_alloc | apply pw_below_drewN | apply below_drew1 | refine below_set ?_ GE154.out) | exact HB.out)))); have n4_ := Aside0.mk (blk_below (g := gb154) (o := .cells #[.string ((rd_T31 l0 x9_1).f0), .int .i64 ((rd_T31 l0 x9_1).f1), .int .i64 ((rd_T31 l0 x9_1).f2)] 31 (0, 0)) (by (with_reducible repeat (first | refine blk_drewN ?_ _ | refine blk_drew ?_ | refine blk_alloc ?_ _)); exact BK154.out) hb); have n5_ := Aside0.mk (below_step (by repeat (first | (with_reducible first | exact HB.out | apply below_alloc | apply pw_below_drewN | apply below_drew1 | refine below_set ?_ GE154.out) | exact HB.out)) hb); clear HO_8; clear HO158; clear HO161; clear BK154; clear HB; have HO_8 := n0_; have HO158 := n1_; have HO161 := n2_; have HO164 := n3_; have BK154 := n4_; have HB := n5_; clear n0_ n1_ n2_ n3_ n4_ n5_; clear hb ho86; have hcz87_0 : w85.cell? ⟨gb154, 0, none⟩ = some (.string ((rd_T31 l0 x9_1).f0)) := (blk_cell BK154.out 0).trans rfl; have hcz87_1 : w85.cell? ⟨gb154, 1, none⟩ = some (.int .i64 ((rd_T31 l0 x9_1).f1)) := (blk_cell BK154.out 1).trans rfl; have hcz87_2 : w85.cell? ⟨gb154, 2, none⟩ = some (.int .i64 ((rd_T31 l0 x9_1).f2)) := (blk_cell BK154.out 2).trans rfl; have hfz87_0 := blk_frozen BK154.out 0; have hfz87_1 := blk_frozen BK154.out 1; have hfz87_2 := blk_frozen BK154.out 2; obtain ⟨Ao89, co89, eo89⟩ := Kd.R_slice HO164.out; subst eo89) | ((with_reducible refine gate_builtin (b := .append) (xs := #[.tmp 74, .tmp 76]) rfl ?_); at_builtin; refine Kd.N_append (Kd.slice 9 Kd.string) (w0 := w) w.heap.size rfl (.tmp 74) (.tmp 76) 80 90 (.slice none 0 0) 24 rfl Tryz.underlying80 info90 rfl (by decide) (by omega) u8 x8_1 y162 [.slice Ao89 y162.length co89] (fun k_ => some k_ ≠ (v157 : Value).ownBlock ∧ some k_ ≠ (v160 : Value).ownBlock ∧ k_ ≠ gb154) (fun k_ => ((fun k_ => some k_ ≠ (v157 : Value).ownBlock ∧ some k_ ≠ (v160 : Value).ownBlock ∧ k_ ≠ gb154)) k_ ∧ some k_ ≠ (u8 : Value).ownBlock) rfl rfl ?aP (fun _ hk => hk) ?aF ?aO ?aB ?aS ?aL ?_; (case aP => first | exact (Kd.FK_slice_mk (Kd.R_reads' (Kd.R_mono (ok' := (fun k_ => ((fun k_ => some k_ ≠ (v157 : Value).ownBlock ∧ some k_ ≠ (v160 : Value).ownBlock ∧ k_ ≠ gb154)) k_ ∧ some k_ ≠ (u8 : Value).ownBlock)) (Kd.R_types (Kd.R_apart' (Kd.R_apart' (Kd.R_apart' (HO164.out) (Kd.R_typed HO158.out) (by decide)) (Kd.R_typed HO161.out) (by decide)) (Kd.N_typed HO_8.out) (by decide)) BK154.out (by decide)) (fun k_ hk => ⟨⟨hk.1.1.1.2, ⟨hk.1.1.2, hk.2⟩⟩, hk.1.2⟩))).2.1 (Kd.R_F (Kd.R_mono (ok' := (fun k_ => ((fun k_ => some k_ ≠ (v157 : Value).ownBlock ∧ some k_ ≠ (v160 : Value).ownBlock ∧ k_ ≠ gb154)) k_ ∧ some k_ ≠ (u8 : Value).ownBlock)) (Kd.R_types (Kd.R_apart' (Kd.R_apart' (Kd.R_apart' (HO164.out) (Kd.R_typed HO158.out) (by decide)) (Kd.R_typed HO161.out) (by decide)) (Kd.N_typed HO_8.out) (by decide)) BK154.out (by decide)) (fun k_ hk => ⟨⟨hk.1.1.1.2, ⟨hk.1.1.2, hk.2⟩⟩, hk.1.2⟩)))) | exact fk_row6 (Kd.R_mono (ok' := (fun k_ => ((fun k_ => some k_ ≠ (v157 : Value).ownBlock ∧ some k_ ≠ (v160 : Value).ownBlock ∧ k_ ≠ gb154)) k_ ∧ some k_ ≠ (u8 : Value).ownBlock)) (Kd.R_types (Kd.R_apart' (Kd.R_apart' (Kd.R_apart' (HO164.out) (Kd.R_typed HO158.out) (by decide)) (Kd.R_typed HO161.out) (by decide)) (Kd.N_typed HO_8.out) (by decide)) BK154.out (by decide)) (fun k_ hk => ⟨⟨hk.1.1.1.2, ⟨hk.1.1.2, hk.2⟩⟩, hk.1.2⟩))); (case aB => exact (by repeat (first | (with_reducible first | exact HB.out | apply below_alloc | apply pw_below_drewN | apply below_drew1 | refine below_set ?_ GE154.out) | exact HB.out))); (case aF => exact (fun k_ hk => ⟨Kd.fresh' (Kd.R_lt (by (with_reducible repeat (first | apply Kd.R_alloc | apply Kd.R_drewN | apply Kd.R_drew)); exact HO158.out)) k_ hk, Kd.fresh' (Kd.R_lt (by (with_reducible repeat (first | apply Kd.R_alloc | apply Kd.R_drewN | apply Kd.R_drew)); exact HO161.out)) k_ hk, Kd.freshB (g := gb154) (o := .cells #[.string ((rd_T31 l0 x9_1).f0), .int .i64 ((rd_T31 l0 x9_1).f1), .int .i64 ((rd_T31 l0 x9_1).f2)] 31 (0, 0)) (by (with_reducible repeat (first | refine blk_drewN ?_ _ | refine blk_drew ?_ | refine blk_alloc ?_ _)); exact BK154.out) k_ hk⟩)); (case aO => exact (by (with_reducible repeat (first | apply Kd.N_alloc | apply Kd.N_drewN | apply Kd.N_drew)); exact Kd.N_mono HO_8.out (fun _ hk => ⟨hk.1.1.1, ⟨hk.1.2, hk.1.1.2⟩⟩))); (case aS => exact (below_size (by repeat (first | (with_reducible first | exact HB.out | apply below_alloc | apply pw_below_drewN | apply below_drew1 | refine below_set ?_ GE154.out) | exact HB.out)))); (case aL => have := LMc79.out; omega); intro v181 w88 ho hb hg hat; rw [← Ny180.out] at ho; have n0_ := Aside0.mk (blk_grown (g := gb154) (o := .cells #[.string ((rd_T31 l0 x9_1).f0), .int .i64 ((rd_T31 l0 x9_1).f1), .int .i64 ((rd_T31 l0 x9_1).f2)] 31 (0, 0)) (by (with_reducible repeat (first | refine blk_drewN ?_ _ | refine blk_drew ?_ | refine blk_alloc ?_ _)); exact BK154.out) hg (Kd.N_ne HO_8.out BK154.out (by decide))); have n1_ := Aside0.mk (Kd.R_over' (by (with_reducible repeat (first | apply Kd.R_alloc | apply Kd.R_drewN | apply Kd.R_drew)); exact HO158.out) (Kd.N_typed (by (with_reducible repeat (first | apply Kd.N_alloc | apply Kd.N_drewN | apply Kd.N_drew)); exact HO_8.out)) (by decide) hg); have n2_ := Aside0.mk (Kd.R_over' (by (with_reducible repeat (first | apply Kd.R_alloc | apply Kd.R_drewN | apply Kd.R_drew)); exact HO161.out) (Kd.N_typed (by (with_reducible repeat (first | apply Kd.N_alloc | apply Kd.N_drewN | apply Kd.N_drew)); exact HO_8.out)) (by decide) hg); have n3_ := Aside0.mk (hb); have n4_ := Aside0.mk (ho); clear BK154; clear HO158; clear HO161; clear HB; clear HO_8; clear HO164; have BK154 := n0_; have HO158 := n1_; have HO161 := n2_; have HB := n3_; have HO182 := n4_; clear n0_ n1_ n2_ n3_ n4_; clear ho hb hg hat))
                              go_roundg kj13
                              case measure => have := HK1.out; have := HJ13.out; omega
                              case rel => exact ⟨(y156), (y159), (y180), (wrap64 (x9_1 + 1)), (by first | rfl | (simp; done) | (simp [*]; done)), H', ⟨by have := HK1.out; have := HJ13.out; omega⟩, ⟨by (with_reducible repeat (first | apply Kd.R_alloc | apply Kd.R_drewN | apply Kd.R_drew)); exact Kd.R_mono HO158.out (fun _ hk => hk.2)⟩, ⟨by (with_reducible repeat (first | apply Kd.R_alloc | apply Kd.R_drewN | apply Kd.R_drew)); exact HO161.out⟩, ⟨by (with_reducible repeat (first | apply Kd.N_alloc | apply Kd.N_drewN | apply Kd.N_drew)); exact Kd.N_mono HO182.out (fun _ hk => ⟨hk.1, hk.2.1⟩)⟩, ⟨by repeat (first | (with_reducible first | exact HB.out | apply below_alloc | apply pw_below_drewN | apply below_drew1 | refine below_set ?_ GE154.out) | exact HB.out)⟩⟩
                            · rw [if_neg c79] at H
                              exact absurd H (by simp)
                      · rw [if_neg c22] at H
                        exact absurd H (by simp)
                    · rw [if_neg c21] at H
                      exact absurd H (by simp)
            · replace c13 := Bool.eq_false_iff.mpr c13
              subst c13
              have H1 : (some ((⟨#[]⟩ : ByteArray), 60)) = some (r1, r2) := by rw [if_neg (show ¬ (false = true) by decide)] at H; exact H
              clear H
              have H := H1
              clear H1
              simp only [Option.some.injEq, Prod.mk.injEq] at H
              obtain ⟨rfl, rfl⟩ := H
              have p153 : 0 ≤ (x9_1 : Int) := of_decide_eq_true (by first | (with_reducible assumption) | assumption)
              have q153 : x9_1 < (l0.length : Int) := of_decide_eq_true (by first | (with_reducible assumption) | assumption)
              obtain ⟨ad153, e153, hx153_0, hx153_1, hx153_2⟩ := at_T31 HR0.out x9_1 p153 q153
              cases e153
              replace hx153_0 := (HB.out.cell (World.block_lt_of_cell? w _ hx153_0)).trans hx153_0
              replace hx153_1 := (HB.out.cell (World.block_lt_of_cell? w _ hx153_1)).trans hx153_1
              replace hx153_2 := (HB.out.cell (World.block_lt_of_cell? w _ hx153_2)).trans hx153_2
              replace p153 := eq_true p153
              replace q153 := eq_true q153
              go_wp2_with (first | ((with_reducible refine gate_dst (N := 10) rfl ?_); refine box_event ?hg (N := 10) ?hd (cs := #[.string (⟨#[]⟩ : ByteArray), .int .i64 0, .int .i64 0]) (t := 31) ?hr ?_; (case hd => rfl); (case hg => rfl); (case hr => first | (go_simp; done) | (go_simp; rfl)); intro gb154 hg w90 hbox hb; have n0_ := Aside0.mk (Kd.R_below (by (with_reducible repeat (first | apply Kd.R_alloc | apply Kd.R_drewN | apply Kd.R_drew)); exact HO_6.out) hb); have n1_ := Aside0.mk (Kd.R_below (by (with_reducible repeat (first | apply Kd.R_alloc | apply Kd.R_drewN | apply Kd.R_drew)); exact HO_7.out) hb); have n2_ := Aside0.mk (Kd.N_below (Kd.N_elderB (by (with_reducible repeat (first | apply Kd.N_alloc | apply Kd.N_drewN | apply Kd.N_drew)); exact HO_8.out) gb154 (Nat.le_of_eq hg.symm)) hb); have n3_ := Aside0.mk (below_step (by repeat (first | (with_reducible first | exact HB.out | apply below_alloc | apply pw_below_drewN | apply below_drew1) | exact HB.out)) hb); have n4_ := Aside0.mk (hbox); have n5_ := Aside0.mk ((by rw [hg]; exact (below_size (by repeat (first | (with_reducible first | exact HB.out | apply below_alloc | apply pw_below_drewN | apply below_drew1) | exact HB.out))) : w.heap.size ≤ gb154)); have n6_ := Aside0.mk ((by rw [hg]; exact (below_size (by repeat (first | (with_reducible first | exact HB.out | apply below_alloc | apply pw_below_drewN | apply below_drew1) | exact HB.out))) : w.heap.size ≤ gb154)); clear HO_6; clear HO_7; clear HO_8; clear HB; have HO_6 := n0_; have HO_7 := n1_; have HO_8 := n2_; have HB := n3_; have BK154 := n4_; have GW154 := n5_; have GE154 := n6_; clear n0_ n1_ n2_ n3_ n4_ n5_ n6_; clear hb hbox hg; have hcz91_0 : w90.cell? ⟨gb154, 0, none⟩ = some (.string (⟨#[]⟩ : ByteArray)) := (blk_cell BK154.out 0).trans rfl; have hcz91_1 : w90.cell? ⟨gb154, 1, none⟩ = some (.int .i64 0) := (blk_cell BK154.out 1).trans rfl; have hcz91_2 : w90.cell? ⟨gb154, 2, none⟩ = some (.int .i64 0) := (blk_cell BK154.out 2).trans rfl; have hfz91_0 := blk_frozen BK154.out 0; have hfz91_1 := blk_frozen BK154.out 1; have hfz91_2 := blk_frozen BK154.out 2) | ((with_reducible refine gate_callee (f := 49) rfl ?_); refine goesL_ (some 33) rfl rfl Tryz.func49 (by kernel_rfl) rfl #[.string ((rd_T31 l0 x9_1).f0)] rfl (by (try simp only [List.map_toArray, List.map_cons, List.map_nil]); first | done | rfl | (simp only [List.length_drop, List.length_take]; rfl)) ?_; (with_reducible refine (daybookref05_Name.calls k1 ((rd_T31 l0 x9_1).f0) false _ A12.out).mono ?_); rintro e w' ⟨rfl, ⟨nd, rfl⟩⟩; refine ⟨_, rfl, ?_⟩))
              go_ret2
              exact ⟨by first | rfl | (simp [errW_none, errW_some] <;> rfl) | (simp [*, errW_none, errW_some] <;> rfl), by repeat (first | (with_reducible first | exact HB.out | apply below_alloc | apply pw_below_drewN | apply below_drew1 | refine below_set ?_ GE154.out) | exact HB.out)⟩
          · rw [if_neg c11] at H
            exact absurd H (by simp)
        · rw [if_neg c10] at H
          have c10b0 : decide (x9_1 < (l0.length : Int)) = false := decide_eq_false c10
          clear c10
          replace H := Option.bind_eq_some_iff.mp H
          obtain ⟨⟨t183, t184⟩, A920, H⟩ := H
          replace H : ((L_RefSum.f x7_1).bind fun bt185 => (if t184 = 0 then (daybookref17_Trial.j2 k1 a1 x8_1 t183 bt185.1 (bt185.2 != 0)) else (daybookref17_Trial.j2 k1 a1 x8_1 t183 bt185.1 true))) = some (r1, r2) := H
          have A92 := Aside0.mk A920
          clear A920
          replace H := Option.bind_eq_some_iff.mp H
          obtain ⟨⟨t185, t186⟩, A930, H⟩ := H
          replace H : (if t184 = 0 then (daybookref17_Trial.j2 k1 a1 x8_1 t183 t185 (t186 != 0)) else (daybookref17_Trial.j2 k1 a1 x8_1 t183 t185 true)) = some (r1, r2) := H
          have A93 := Aside0.mk A930
          clear A930
          have HC94 := Aside0.mk H
          clear H
          obtain ⟨Ao95, co95, eo95⟩ := Kd.R_slice HO_6.out
          subst eo95
          go_upto_region 23 with (first | ((with_reducible refine gate_callee (f := 51) rfl ?_); refine goesL_ (some 80) rfl rfl Tryz.func51 (by kernel_rfl) rfl #[.slice Ao95 x6_1.length co95] rfl (by (try simp only [List.map_toArray, List.map_cons, List.map_nil]); first | done | rfl | (simp only [List.length_drop, List.length_take]; rfl)) ?_; (with_reducible refine (L_RefSum.calls _ _ x6_1 t183 t184 _ ?side1 ?side2 A92.out).mono ?_); (case side1 => repeat (first | exact (Kd.R_reads' HO_6.out).2.2 | (with_reducible refine Kd.C_alloc ?_ _) | (with_reducible refine Kd.C_drewN ?_ _) | (with_reducible refine Kd.C_drew ?_))); (case side2 => exact (Kd.R_reads' HO_6.out).2.1); rintro e w96 ⟨rfl, hb⟩; refine ⟨_, rfl, ?_⟩; have n0_ := Aside0.mk (Kd.R_below (by (with_reducible repeat (first | apply Kd.R_alloc | apply Kd.R_drewN | apply Kd.R_drew)); exact HO_6.out) hb); have n1_ := Aside0.mk (Kd.R_below (by (with_reducible repeat (first | apply Kd.R_alloc | apply Kd.R_drewN | apply Kd.R_drew)); exact HO_7.out) hb); have n2_ := Aside0.mk (Kd.N_below (by (with_reducible repeat (first | apply Kd.N_alloc | apply Kd.N_drewN | apply Kd.N_drew)); exact HO_8.out) hb); have n3_ := Aside0.mk (below_step (by repeat (first | (with_reducible first | exact HB.out | apply below_alloc | apply pw_below_drewN | apply below_drew1) | exact HB.out)) hb); clear HO_6; clear HO_7; clear HO_8; clear HB; have HO_6 := n0_; have HO_7 := n1_; have HO_8 := n2_; have HB := n3_; clear n0_ n1_ n2_ n3_; (try clear hb); (try clear hb2); (try clear hk); (try clear hi); obtain ⟨Ao97, co97, eo97⟩ := Kd.R_slice HO_7.out; subst eo97) | ((with_reducible refine gate_callee (f := 51) rfl ?_); refine goesL_ (some 85) rfl rfl Tryz.func51 (by kernel_rfl) rfl #[.slice Ao97 x7_1.length co97] rfl (by (try simp only [List.map_toArray, List.map_cons, List.map_nil]); first | done | rfl | (simp only [List.length_drop, List.length_take]; rfl)) ?_; (with_reducible refine (L_RefSum.calls _ _ x7_1 t185 t186 _ ?side1 ?side2 A93.out).mono ?_); (case side1 => repeat (first | exact (Kd.R_reads' HO_7.out).2.2 | (with_reducible refine Kd.C_alloc ?_ _) | (with_reducible refine Kd.C_drewN ?_ _) | (with_reducible refine Kd.C_drew ?_))); (case side2 => exact (Kd.R_reads' HO_7.out).2.1); rintro e w98 ⟨rfl, hb⟩; refine ⟨_, rfl, ?_⟩; have n0_ := Aside0.mk (Kd.R_below (by (with_reducible repeat (first | apply Kd.R_alloc | apply Kd.R_drewN | apply Kd.R_drew)); exact HO_6.out) hb); have n1_ := Aside0.mk (Kd.R_below (by (with_reducible repeat (first | apply Kd.R_alloc | apply Kd.R_drewN | apply Kd.R_drew)); exact HO_7.out) hb); have n2_ := Aside0.mk (Kd.N_below (by (with_reducible repeat (first | apply Kd.N_alloc | apply Kd.N_drewN | apply Kd.N_drew)); exact HO_8.out) hb); have n3_ := Aside0.mk (below_step (by repeat (first | (with_reducible first | exact HB.out | apply below_alloc | apply pw_below_drewN | apply below_drew1) | exact HB.out)) hb); clear HO_6; clear HO_7; clear HO_8; clear HB; have HO_6 := n0_; have HO_7 := n1_; have HO_8 := n2_; have HB := n3_; clear n0_ n1_ n2_ n3_; (try clear hb); (try clear hb2); (try clear hk); (try clear hi)))
          (try simp only [Act.put, List.setIfInBounds_toArray, List.set_cons_zero, List.set_cons_succ])
          go_cut [93] (fun v93 wc => ∃ (kq : Nat) (x93_93 : Bool), v93 = .bool x93_93 ∧ Aside0 (daybookref17_Trial.j2 kq a1 x8_1 t183 t185 x93_93 = some (r1, r2)) ∧ Aside0 (kq ≤ k1) ∧ Aside0 (Kd.N (Kd.slice 9 Kd.string) 90 wc w.heap.size (fun _ => True) u8 x8_1) ∧ Aside0 (Below w.heap.size w wc))
          case first =>
            have H := HC94.out
            clear HC94
            by_cases c99 : t184 = 0
            · rw [if_pos c99] at H
              have c99b0 : (t184 == 0) = true := beq_iff_eq.mpr c99
              have c99b1 : (t184 != 0) = false := bne_eq_false_iff_eq.mpr c99
              clear c99
              (first | rw [c99b0] | (simp only [i64_w, i32_w]; rw [c99b0]) | skip)
              have H' := Aside0.mk H
              clear H
              go_wp2
              go_meet
              case rel => exact ⟨_, ((t186 != 0)), (by first | rfl | (simp; done) | (simp [*]; done)), H', ⟨by have := HK1.out; first | omega | exact Nat.le_refl _⟩, ⟨by (with_reducible repeat (first | apply Kd.N_alloc | apply Kd.N_drewN | apply Kd.N_drew)); exact Kd.N_mono HO_8.out (fun _ hk => trivial)⟩, ⟨by repeat (first | (with_reducible first | exact HB.out | apply below_alloc | apply pw_below_drewN | apply below_drew1) | exact HB.out)⟩⟩
            · rw [if_neg c99] at H
              have c99b0 : (t184 == 0) = false := beq_eq_false_iff_ne.mpr c99
              have c99b1 : (t184 != 0) = true := bne_iff_ne.mpr c99
              (first | rw [c99b0] | (simp only [i64_w, i32_w]; rw [c99b0]) | skip)
              have H' := Aside0.mk H
              clear H
              go_wp2
              go_meet
              case rel => exact ⟨_, (true), (by first | rfl | (simp; done) | (simp [*]; done)), H', ⟨by have := HK1.out; first | omega | exact Nat.le_refl _⟩, ⟨by (with_reducible repeat (first | apply Kd.N_alloc | apply Kd.N_drewN | apply Kd.N_drew)); exact Kd.N_mono HO_8.out (fun _ hk => trivial)⟩, ⟨by repeat (first | (with_reducible first | exact HB.out | apply below_alloc | apply pw_below_drewN | apply below_drew1) | exact HB.out)⟩⟩
          case rest =>
            clear HC94
            try clear c1
            try clear p1
            try clear q1
            try clear hx1
            try clear c2
            try clear p2
            try clear q2
            try clear hx2
            try clear qi2
            try clear hf2
            try clear c3
            try clear p3
            try clear q3
            try clear hx3
            try clear qi3
            try clear hf3
            try clear c4
            try clear c5
            try clear c6
            try clear p6
            try clear q6
            try clear hx6
            try clear qi6
            try clear hf6
            try clear c7
            try clear c9
            try clear c10
            try clear c10b0
            try clear c11
            try clear c11b0
            try clear c13
            try clear p15
            try clear q15
            try clear hx15
            try clear c17
            try clear c17b0
            try clear c20
            try clear c21
            try clear c22
            try clear c23
            try clear c23b0
            try clear c25
            try clear c25b0
            try clear c25b1
            try clear p26
            try clear q26
            try clear hx26
            try clear qi26
            try clear hf26
            try clear c27
            try clear c27b0
            try clear c29
            try clear c29b0
            try clear c29b1
            try clear p30
            try clear q30
            try clear hx30
            try clear qi30
            try clear hf30
            try clear c31
            try clear c48
            try clear c49
            try clear c50
            try clear c51
            try clear c62
            try clear c62b0
            try clear c64
            try clear c64b0
            try clear c64b1
            try clear p64
            try clear p65
            try clear q65
            try clear hx65
            try clear qi65
            try clear hf65
            try clear c66
            try clear c79
            try clear c99
            try clear c99b0
            try clear c99b1
            try clear hcz16_0
            try clear hcz16_1
            try clear hcz16_2
            try clear hcz18_0
            try clear hcz18_1
            try clear hcz18_2
            try clear hcz19_0
            try clear hcz19_1
            try clear hcz19_2
            try clear hcz32_0
            try clear hcz32_1
            try clear hcz32_2
            try clear hcz34_0
            try clear hcz34_1
            try clear hcz34_2
            try clear hcz36_0
            try clear hcz36_1
            try clear hcz36_2
            try clear hcz39_0
            try clear hcz39_1
            try clear hcz39_2
            try clear hcz43_0
            try clear hcz43_1
            try clear hcz43_2
            try clear hcz49_0
            try clear hcz49_1
            try clear hcz49_2
            try clear hcz51_0
            try clear hcz51_1
            try clear hcz51_2
            try clear hcz53_0
            try clear hcz53_1
            try clear hcz53_2
            try clear hcz56_0
            try clear hcz56_1
            try clear hcz56_2
            try clear hcz60_0
            try clear hcz60_1
            try clear hcz60_2
            try clear hcz67_0
            try clear hcz67_1
            try clear hcz67_2
            try clear hcz69_0
            try clear hcz69_1
            try clear hcz69_2
            try clear hcz71_0
            try clear hcz71_1
            try clear hcz71_2
            try clear hcz74_0
            try clear hcz74_1
            try clear hcz74_2
            try clear hcz80_0
            try clear hcz80_1
            try clear hcz80_2
            try clear hcz82_0
            try clear hcz82_1
            try clear hcz82_2
            try clear hcz84_0
            try clear hcz84_1
            try clear hcz84_2
            try clear hcz87_0
            try clear hcz87_1
            try clear hcz87_2
            try clear hcz91_0
            try clear hcz91_1
            try clear hcz91_2
            try clear hfz16_0
            try clear hfz16_1
            try clear hfz16_2
            try clear hfz18_0
            try clear hfz18_1
            try clear hfz18_2
            try clear hfz19_0
            try clear hfz19_1
            try clear hfz19_2
            try clear hfz32_0
            try clear hfz32_1
            try clear hfz32_2
            try clear hfz34_0
            try clear hfz34_1
            try clear hfz34_2
            try clear hfz36_0
            try clear hfz36_1
            try clear hfz36_2
            try clear hfz39_0
            try clear hfz39_1
            try clear hfz39_2
            try clear hfz43_0
            try clear hfz43_1
            try clear hfz43_2
            try clear hfz49_0
            try clear hfz49_1
            try clear hfz49_2
            try clear hfz51_0
            try clear hfz51_1
            try clear hfz51_2
            try clear hfz53_0
            try clear hfz53_1
            try clear hfz53_2
            try clear hfz56_0
            try clear hfz56_1
            try clear hfz56_2
            try clear hfz60_0
            try clear hfz60_1
            try clear hfz60_2
            try clear hfz67_0
            try clear hfz67_1
            try clear hfz67_2
            try clear hfz69_0
            try clear hfz69_1
            try clear hfz69_2
            try clear hfz71_0
            try clear hfz71_1
            try clear hfz71_2
            try clear hfz74_0
            try clear hfz74_1
            try clear hfz74_2
            try clear hfz80_0
            try clear hfz80_1
            try clear hfz80_2
            try clear hfz82_0
            try clear hfz82_1
            try clear hfz82_2
            try clear hfz84_0
            try clear hfz84_1
            try clear hfz84_2
            try clear hfz87_0
            try clear hfz87_1
            try clear hfz87_2
            try clear hfz91_0
            try clear hfz91_1
            try clear hfz91_2
            try clear hx153_0
            try clear hx153_1
            try clear hx153_2
            try clear hx26_0
            try clear hx30_0
            try clear hx65_0
            try clear p1
            try clear p15
            try clear p153
            try clear p2
            try clear p26
            try clear p30
            try clear p65
            try clear q1
            try clear q15
            try clear q153
            try clear q26
            try clear q30
            try clear q65
            obtain ⟨kq, x93_93, rfl, HA, HJ93, HO_8, HB⟩ := hcut
            cases kq with
            | zero => exact absurd HA.out (by simp [daybookref17_Trial.j2])
            | succ kj93 =>
              have H := HA.out
              clear HA
              simp only [daybookref17_Trial.j2] at H
              by_cases c100 : x93_93 = true
              · subst c100
                have H1 : (some ((⟨#[]⟩ : ByteArray), 11)) = some (r1, r2) := by rw [if_pos rfl] at H; exact H
                clear H
                have H := H1
                clear H1
                simp only [Option.some.injEq, Prod.mk.injEq] at H
                obtain ⟨rfl, rfl⟩ := H
                go_wp2
                go_ret2
                exact ⟨by first | rfl | (simp [errW_none, errW_some] <;> rfl) | (simp [*, errW_none, errW_some] <;> rfl), by repeat (first | (with_reducible first | exact HB.out | apply below_alloc | apply pw_below_drewN | apply below_drew1) | exact HB.out)⟩
              · replace c100 := Bool.eq_false_iff.mpr c100
                subst c100
                have H1 : ((daybookref17_money.f kj93 t183 a1).bind fun t187 => ((daybookref17_money.f kj93 t185 a1).bind fun t188 => (if x8_1.length < 5864062014805 then ((daybookref17_Grid.f kj93 (x8_1 ++ [(([(⟨#[83, 117, 109]⟩ : ByteArray), t187, t188] : List ByteArray))]) (([false, true, true] : List Bool))).bind fun t198 => (some (t198, 0))) else (none)))) = some (r1, r2) := by rw [if_neg (show ¬ (false = true) by decide)] at H; exact H
                clear H
                have H := H1
                clear H1
                replace H := Option.bind_eq_some_iff.mp H
                obtain ⟨t187, A1010, H⟩ := H
                replace H : ((daybookref17_money.f kj93 t185 a1).bind fun t188 => (if x8_1.length < 5864062014805 then ((daybookref17_Grid.f kj93 (x8_1 ++ [(([(⟨#[83, 117, 109]⟩ : ByteArray), t187, t188] : List ByteArray))]) (([false, true, true] : List Bool))).bind fun t198 => (some (t198, 0))) else (none))) = some (r1, r2) := H
                have A101 := Aside0.mk A1010
                clear A1010
                replace H := Option.bind_eq_some_iff.mp H
                obtain ⟨t188, A1020, H⟩ := H
                replace H : (if x8_1.length < 5864062014805 then ((daybookref17_Grid.f kj93 (x8_1 ++ [(([(⟨#[83, 117, 109]⟩ : ByteArray), t187, t188] : List ByteArray))]) (([false, true, true] : List Bool))).bind fun t198 => (some (t198, 0))) else (none)) = some (r1, r2) := H
                have A102 := Aside0.mk A1020
                clear A1020
                obtain ⟨y189, hy189⟩ : ∃ y_ : List ByteArray, y_ = (([(⟨#[83, 117, 109]⟩ : ByteArray), t187, t188] : List ByteArray)) := ⟨_, rfl⟩
                replace H : (if x8_1.length < 5864062014805 then ((daybookref17_Grid.f kj93 (x8_1 ++ [y189]) (([false, true, true] : List Bool))).bind fun t198 => (some (t198, 0))) else (none)) = some (r1, r2) := by first | (rw [hy189]; with_reducible exact H) | (have H2_ := (Option.bind_some _ _).symm.trans H; rw [hy189]; with_reducible exact H2_) | (have H2_ := (Option.bind_some _ _).symm.trans H; with_reducible exact H2_) | with_reducible exact H | (rw [hy189]; exact H) | exact H
                have Ny189 := Aside0.mk hy189
                clear hy189
                by_cases c103 : x8_1.length < 5864062014805
                · rw [if_pos c103] at H
                  have LMc103 := Aside0.mk c103
                  clear c103
                  obtain ⟨y192, hy192⟩ : ∃ y_ : List (List ByteArray), y_ = (x8_1 ++ [y189]) := ⟨_, rfl⟩
                  replace H : ((daybookref17_Grid.f kj93 y192 (([false, true, true] : List Bool))).bind fun t198 => (some (t198, 0))) = some (r1, r2) := by first | (rw [hy192]; with_reducible exact H) | (have H2_ := (Option.bind_some _ _).symm.trans H; rw [hy192]; with_reducible exact H2_) | (have H2_ := (Option.bind_some _ _).symm.trans H; with_reducible exact H2_) | with_reducible exact H | (rw [hy192]; exact H) | exact H
                  have Ny192 := Aside0.mk hy192
                  clear hy192
                  obtain ⟨y195, hy195⟩ : ∃ y_ : List Bool, y_ = (([false, true, true] : List Bool)) := ⟨_, rfl⟩
                  replace H : ((daybookref17_Grid.f kj93 y192 y195).bind fun t198 => (some (t198, 0))) = some (r1, r2) := by first | (rw [hy195]; with_reducible exact H) | (have H2_ := (Option.bind_some _ _).symm.trans H; rw [hy195]; with_reducible exact H2_) | (have H2_ := (Option.bind_some _ _).symm.trans H; with_reducible exact H2_) | with_reducible exact H | (rw [hy195]; exact H) | exact H
                  have Ny195 := Aside0.mk hy195
                  clear hy195
                  replace H := Option.bind_eq_some_iff.mp H
                  obtain ⟨t198, A1040, H⟩ := H
                  replace H : (some (t198, 0)) = some (r1, r2) := H
                  have A104 := Aside0.mk A1040
                  clear A1040
                  simp only [Option.some.injEq, Prod.mk.injEq] at H
                  obtain ⟨rfl, rfl⟩ := H
                  go_wp2_with (first | ((with_reducible refine gate_callee (f := 50) rfl ?_); refine goesL_ (some 97) rfl rfl Tryz.func50 (by kernel_rfl) rfl #[.int .i64 t183, .int .i64 a1] rfl (by (try simp only [List.map_toArray, List.map_cons, List.map_nil]); first | done | rfl | (simp only [List.length_drop, List.length_take]; rfl)) ?_; (with_reducible refine (daybookref17_money.calls kj93 t183 a1 t187 _ A101.out).mono ?_); rintro e w105 ⟨rfl, hb⟩; refine ⟨_, rfl, ?_⟩; have n0_ := Aside0.mk (Kd.N_below (by (with_reducible repeat (first | apply Kd.N_alloc | apply Kd.N_drewN | apply Kd.N_drew)); exact HO_8.out) hb); have n1_ := Aside0.mk (below_step (by repeat (first | (with_reducible first | exact HB.out | apply below_alloc | apply pw_below_drewN | apply below_drew1) | exact HB.out)) hb); clear HO_8; clear HB; have HO_8 := n0_; have HB := n1_; clear n0_ n1_; (try clear hb); (try clear hb2); (try clear hk); (try clear hi)) | ((with_reducible refine gate_callee (f := 50) rfl ?_); refine goesL_ (some 100) rfl rfl Tryz.func50 (by kernel_rfl) rfl #[.int .i64 t185, .int .i64 a1] rfl (by (try simp only [List.map_toArray, List.map_cons, List.map_nil]); first | done | rfl | (simp only [List.length_drop, List.length_take]; rfl)) ?_; (with_reducible refine (daybookref17_money.calls kj93 t185 a1 t188 _ A102.out).mono ?_); rintro e w106 ⟨rfl, hb⟩; refine ⟨_, rfl, ?_⟩; have n0_ := Aside0.mk (Kd.N_below (by (with_reducible repeat (first | apply Kd.N_alloc | apply Kd.N_drewN | apply Kd.N_drew)); exact HO_8.out) hb); have n1_ := Aside0.mk (below_step (by repeat (first | (with_reducible first | exact HB.out | apply below_alloc | apply pw_below_drewN | apply below_drew1) | exact HB.out)) hb); clear HO_8; clear HB; have HO_8 := n0_; have HB := n1_; clear n0_ n1_; (try clear hb); (try clear hb2); (try clear hk); (try clear hi)) | ((with_reducible refine gate_dst (N := 101) rfl ?_); refine Kd.R_lit Kd.string _ 9 ?hg (N := 101) ?hd (xs := ([(⟨#[83, 117, 109]⟩ : ByteArray), t187, t188] : List ByteArray)) (inner := [.string (⟨#[83, 117, 109]⟩ : ByteArray), .string t187, .string t188]) (ok := fun _ => True) (okp := fun _ => True) ?hr ?hp (fun _ hk => hk) trivial (Below.refl _ _) (Nat.le_refl _) (by simp) ?_; (case hd => rfl); (case hg => rfl); (case hr => first | (go_simp; done) | (go_simp; rfl)); (case hp => exact (Reps.one (show Kd.M Kd.string _ _ _ (⟨#[83, 117, 109]⟩ : ByteArray) [.string (⟨#[83, 117, 109]⟩ : ByteArray)] from rfl) (Reps.one (show Kd.M Kd.string _ _ _ t187 [.string t187] from rfl) (Reps.one (show Kd.M Kd.string _ _ _ t188 [.string t188] from rfl) (Reps.none _ _))))); intro v190 w107 ho108 hb hg_ hnew_; clear hg_ hnew_; (first | rw [← Ny189.out] at ho108 | (simp only [Int.reduceToNat] at ho108; rw [← Ny189.out] at ho108)); have n0_ := Aside0.mk (Kd.N_elder' (by (with_reducible repeat (first | apply Kd.N_alloc | apply Kd.N_drewN | apply Kd.N_drew)); exact HO_8.out) (Kd.R_base ho108) hb); have n1_ := Aside0.mk (Kd.R_lower ho108 (below_size (by repeat (first | (with_reducible first | exact HB.out | apply below_alloc | apply pw_below_drewN | apply below_drew1) | exact HB.out)))); have n2_ := Aside0.mk (below_step (by repeat (first | (with_reducible first | exact HB.out | apply below_alloc | apply pw_below_drewN | apply below_drew1) | exact HB.out)) hb); clear HO_8; clear HB; have HO_8 := n0_; have HO191 := n1_; have HB := n2_; clear n0_ n1_ n2_; clear hb ho108; obtain ⟨Ao110, co110, eo110⟩ := Kd.R_slice HO191.out; subst eo110) | ((with_reducible refine gate_builtin (b := .append) (xs := #[.tmp 94, .tmp 102]) rfl ?_); at_builtin; refine Kd.N_append (Kd.slice 9 Kd.string) (w0 := w) w.heap.size rfl (.tmp 94) (.tmp 102) 80 90 (.slice none 0 0) 24 rfl Tryz.underlying80 info90 rfl (by decide) (by omega) u8 x8_1 y189 [.slice Ao110 y189.length co110] (fun _ => True) (fun k_ => ((fun _ => True)) k_ ∧ some k_ ≠ (u8 : Value).ownBlock) rfl rfl ?aP (fun _ hk => hk) ?aF ?aO ?aB ?aS ?aL ?_; (case aP => first | exact (Kd.FK_slice_mk (Kd.R_reads' (Kd.R_mono (ok' := (fun k_ => ((fun _ => True)) k_ ∧ some k_ ≠ (u8 : Value).ownBlock)) (Kd.R_apart' (HO191.out) (Kd.N_typed HO_8.out) (by decide)) (fun k_ hk => ⟨trivial, hk.2⟩))).2.1 (Kd.R_F (Kd.R_mono (ok' := (fun k_ => ((fun _ => True)) k_ ∧ some k_ ≠ (u8 : Value).ownBlock)) (Kd.R_apart' (HO191.out) (Kd.N_typed HO_8.out) (by decide)) (fun k_ hk => ⟨trivial, hk.2⟩)))) | exact fk_row6 (Kd.R_mono (ok' := (fun k_ => ((fun _ => True)) k_ ∧ some k_ ≠ (u8 : Value).ownBlock)) (Kd.R_apart' (HO191.out) (Kd.N_typed HO_8.out) (by decide)) (fun k_ hk => ⟨trivial, hk.2⟩))); (case aB => exact (by repeat (first | (with_reducible first | exact HB.out | apply below_alloc | apply pw_below_drewN | apply below_drew1) | exact HB.out))); (case aF => exact (fun _ _ => trivial)); (case aO => exact (by (with_reducible repeat (first | apply Kd.N_alloc | apply Kd.N_drewN | apply Kd.N_drew)); exact Kd.N_mono HO_8.out (fun _ hk => trivial))); (case aS => exact (below_size (by repeat (first | (with_reducible first | exact HB.out | apply below_alloc | apply pw_below_drewN | apply below_drew1) | exact HB.out)))); (case aL => have := LMc103.out; omega); intro v193 w109 ho hb hg hat; rw [← Ny192.out] at ho; have n0_ := Aside0.mk (hb); have n1_ := Aside0.mk (ho); clear HB; clear HO_8; clear HO191; have HB := n0_; have HO194 := n1_; clear n0_ n1_; clear ho hb hg hat) | ((with_reducible refine gate_dst (N := 105) rfl ?_); refine Kd.R_lit Kd.bool _ 4 ?hg (N := 105) ?hd (xs := ([false, true, true] : List Bool)) (inner := [.bool false, .bool true, .bool true]) (ok := fun _ => True) (okp := fun _ => True) ?hr ?hp (fun _ hk => hk) trivial (Below.refl _ _) (Nat.le_refl _) (by simp) ?_; (case hd => rfl); (case hg => rfl); (case hr => first | (go_simp; done) | (go_simp; rfl)); (case hp => exact (Reps.one (show Kd.M Kd.bool _ _ _ false [.bool false] from rfl) (Reps.one (show Kd.M Kd.bool _ _ _ true [.bool true] from rfl) (Reps.one (show Kd.M Kd.bool _ _ _ true [.bool true] from rfl) (Reps.none _ _))))); intro v196 w111 ho112 hb hg_ hnew_; clear hg_ hnew_; (first | rw [← Ny195.out] at ho112 | (simp only [Int.reduceToNat] at ho112; rw [← Ny195.out] at ho112)); have n0_ := Aside0.mk (Kd.N_elder' (by (with_reducible repeat (first | apply Kd.N_alloc | apply Kd.N_drewN | apply Kd.N_drew)); exact HO194.out) (Kd.R_base ho112) hb); have n1_ := Aside0.mk (Kd.R_lower ho112 (below_size (by repeat (first | (with_reducible first | exact HB.out | apply below_alloc | apply pw_below_drewN | apply below_drew1) | exact HB.out)))); have n2_ := Aside0.mk (below_step (by repeat (first | (with_reducible first | exact HB.out | apply below_alloc | apply pw_below_drewN | apply below_drew1) | exact HB.out)) hb); clear HO194; clear HB; have HO194 := n0_; have HO197 := n1_; have HB := n2_; clear n0_ n1_ n2_; clear hb ho112; obtain ⟨Ao113, co113, eo113⟩ := Kd.N_slice HO194.out; subst eo113; obtain ⟨Ao114, co114, eo114⟩ := Kd.R_slice HO197.out; subst eo114) | ((with_reducible refine gate_callee (f := 52) rfl ?_); refine goesL_ (some 106) rfl rfl Tryz.func52 (by kernel_rfl) rfl #[.slice Ao113 y192.length co113, .slice Ao114 y195.length co114] rfl (by (try simp only [List.map_toArray, List.map_cons, List.map_nil]); first | done | rfl | (simp only [List.length_drop, List.length_take]; rfl)) ?_; (with_reducible refine (daybookref17_Grid.calls kj93 _ _ y192 _ _ y195 t198 _ ?side1 ?side2 ?side3 ?side4 A104.out).mono ?_); (case side1 => repeat (first | exact (Kd.N_reads' HO194.out).2.2 | (with_reducible refine Kd.C_alloc ?_ _) | (with_reducible refine Kd.C_drewN ?_ _) | (with_reducible refine Kd.C_drew ?_))); (case side2 => exact (Kd.N_reads' HO194.out).2.1); (case side3 => repeat (first | exact (Kd.R_reads' HO197.out).2.2 | (with_reducible refine Kd.C_alloc ?_ _) | (with_reducible refine Kd.C_drewN ?_ _) | (with_reducible refine Kd.C_drew ?_))); (case side4 => exact (Kd.R_reads' HO197.out).2.1); rintro e w' ⟨rfl, ⟨nd, rfl⟩⟩; refine ⟨_, rfl, ?_⟩))
                  go_ret2
                  exact ⟨by first | rfl | (simp [errW_none, errW_some] <;> rfl) | (simp [*, errW_none, errW_some] <;> rfl), by repeat (first | (with_reducible first | exact HB.out | apply below_alloc | apply pw_below_drewN | apply below_drew1) | exact HB.out)⟩
                · rw [if_neg c103] at H
                  exact absurd H (by simp)
  · replace c4 := Bool.eq_false_iff.mpr c4
    subst c4
    have H1 : (some ((⟨#[]⟩ : ByteArray), 1)) = some (r1, r2) := by rw [if_neg (show ¬ (false = true) by decide)] at H; exact H
    clear H
    have H := H1
    clear H1
    simp only [Option.some.injEq, Prod.mk.injEq] at H
    obtain ⟨rfl, rfl⟩ := H
    go_enter Tryz.func11, Tryz.ntmps11
    go_wp2_with (first | ((with_reducible refine gate_callee (f := 48) rfl ?_); refine goesL_ (some 17) rfl rfl Tryz.func48 (by kernel_rfl) rfl #[.int .i64 a1] rfl (by (try simp only [List.map_toArray, List.map_cons, List.map_nil]); first | done | rfl | (simp only [List.length_drop, List.length_take]; rfl)) ?_; (with_reducible refine (daybookref17_digits.calls a1 false _ A3.out).mono ?_); rintro e w' ⟨rfl, ⟨nd, rfl⟩⟩; refine ⟨_, rfl, ?_⟩))
    go_ret2
    exact ⟨by first | rfl | (simp [errW_none, errW_some] <;> rfl) | (simp [*, errW_none, errW_some] <;> rfl), by repeat (first | (with_reducible first | exact HB.out | apply below_alloc | apply pw_below_drewN | apply below_drew1) | exact HB.out)⟩

/-! ### daybooklaw17_num: function 35 -/
def daybooklaw17_num.f (a0 : Int) : Option (Int) := some a0
set_option maxHeartbeats 8000000 in
set_option maxRecDepth 100000 in
theorem daybooklaw17_num.calls (a0 : Int) (r : Int) (w : World) (h : daybooklaw17_num.f a0 = some r) :
    Calls Tryz.prog 35 #[.int .i64 a0] w fun e w' => e = .returned (.int .i64 r) ∧ Drawn0 w w' := by
  have H : (some a0) = some r := h
  clear h
  obtain rfl := Option.some.inj H
  go_enter Tryz.func35, Tryz.ntmps35
  go_wp2
  go_ret
  exact ⟨by first | rfl | (simp; done) | (simp [*]; done), by repeat (first | exact Drawn0.refl _ | apply Drawn0.step)⟩

/-! ### daybooklaw17_like: function 12 -/
def daybooklaw17_like.f (a0 : ByteArray) (a1 : Int) (a2 : ByteArray) (a3 : Int) : Option (Bool) := if a0.toList = a2.toList then ((daybooklaw17_num.f a1).bind fun t199 => ((daybooklaw17_num.f a3).bind fun t200 => (some (t199 == t200)))) else (some false)
set_option maxHeartbeats 8000000 in
set_option maxRecDepth 100000 in
theorem daybooklaw17_like.calls (a0 : ByteArray) (a1 : Int) (a2 : ByteArray) (a3 : Int) (r : Bool) (w : World) (h : daybooklaw17_like.f a0 a1 a2 a3 = some r) :
    Calls Tryz.prog 12 #[.string a0, .int .i64 a1, .string a2, .int .i64 a3] w fun e w' => e = .returned (.bool r) ∧ Drawn0 w w' := by
  have H : (if a0.toList = a2.toList then ((daybooklaw17_num.f a1).bind fun t199 => ((daybooklaw17_num.f a3).bind fun t200 => (some (t199 == t200)))) else (some false)) = some r := h
  clear h
  by_cases c5 : a0.toList = a2.toList
  · rw [if_pos c5] at H
    have c5b0 : (a0.toList == a2.toList) = true := beq_iff_eq.mpr c5
    have c5b1 : (a0.toList != a2.toList) = false := bne_eq_false_iff_eq.mpr c5
    clear c5
    replace H := Option.bind_eq_some_iff.mp H
    obtain ⟨t199, A60, H⟩ := H
    replace H : ((daybooklaw17_num.f a3).bind fun t200 => (some (t199 == t200))) = some r := H
    have A6 := Aside0.mk A60
    clear A60
    replace H := Option.bind_eq_some_iff.mp H
    obtain ⟨t200, A70, H⟩ := H
    replace H : (some (t199 == t200)) = some r := H
    have A7 := Aside0.mk A70
    clear A70
    obtain rfl := Option.some.inj H
    go_enter Tryz.func12, Tryz.ntmps12
    go_wp2_with (first | (go_at_call 35; (with_reducible refine (daybooklaw17_num.calls a1 t199 _ A6.out).mono ?_); rintro e w' ⟨rfl, ⟨nd, rfl⟩⟩) | (go_at_call 35; (with_reducible refine (daybooklaw17_num.calls a3 t200 _ A7.out).mono ?_); rintro e w' ⟨rfl, ⟨nd, rfl⟩⟩))
    go_ret
    exact ⟨by first | rfl | (simp; done) | (simp [*]; done), by repeat (first | exact Drawn0.refl _ | apply Drawn0.step)⟩
  · rw [if_neg c5] at H
    have c5b0 : (a0.toList == a2.toList) = false := beq_eq_false_iff_ne.mpr c5
    have c5b1 : (a0.toList != a2.toList) = true := bne_iff_ne.mpr c5
    obtain rfl := Option.some.inj H
    go_enter Tryz.func12, Tryz.ntmps12
    go_wp2
    go_ret
    exact ⟨by first | rfl | (simp; done) | (simp [*]; done), by repeat (first | exact Drawn0.refl _ | apply Drawn0.step)⟩

end Go.Proofs.YtmimninicegjcaaGreatDoor.QT
/- strings.Builder, for builders of a function's own. -/
namespace Go.Proofs
open Go.Shelf
def Tryz.lays240_ren : Go.Shelf.Ren := ⟨fun | 240 => 150 | 276 => 184 | 166 => 100 | 167 => 104 | n => n, fun | 0 => 0 | 3 => 3 | 4 => 4 | 5 => 5 | 9 => 9 | 20 => 20 | 37 => 142 | 70 => 141 | 72 => 144 | 75 => 146 | 80 => 89 | 164 => 236 | n => n, fun | n => n⟩
theorem Tryz.lays240 : Go.Proofs.Lays.n240 Tryz.prog Tryz.lays240_ren := {
  mixed := by kernel_rfl
  f240 := Tryz.func150.trans (congrArg some (by kernel_rfl))
  f276 := Tryz.func184.trans (congrArg some (by kernel_rfl))
  t0 := Tryz.underlying0
  a0 := Tryz.isAgg0
  z0 := Tryz.sizeOf0
  v0 := Tryz.zeroValue0
  t4 := Tryz.underlying4
  a4 := Tryz.isAgg4
  z4 := Tryz.sizeOf4
  v4 := Tryz.zeroValue4
  t9 := Tryz.underlying9
  a9 := Tryz.isAgg9
  z9 := Tryz.sizeOf9
  v9 := Tryz.zeroValue9
  t20 := Tryz.underlying20
  a20 := Tryz.isAgg20
  z20 := Tryz.sizeOf20
  v20 := Tryz.zeroValue20
  t70 := Tryz.underlying141
  a70 := Tryz.isAgg141
  z70 := Tryz.sizeOf141
  v70 := Tryz.zeroValue141
  t72 := Tryz.underlying144
  a72 := Tryz.isAgg144
  z72 := Tryz.sizeOf144
  v72 := Tryz.zeroValue144
  t164 := Tryz.underlying236
  a164 := Tryz.isAgg236
  z164 := Tryz.sizeOf236
  v164 := Tryz.zeroValue236 }
def Tryz.lays166_ren : Go.Shelf.Ren := ⟨fun | 240 => 150 | 276 => 184 | 166 => 100 | 167 => 104 | n => n, fun | 0 => 0 | 3 => 3 | 4 => 4 | 5 => 5 | 9 => 9 | 20 => 20 | 37 => 142 | 70 => 141 | 72 => 144 | 75 => 146 | 80 => 89 | 164 => 236 | n => n, fun | n => n⟩
theorem Tryz.lays166 : Go.Proofs.Lays.n166 Tryz.prog Tryz.lays166_ren := {
  mixed := by kernel_rfl
  f166 := Tryz.func100.trans (congrArg some (by kernel_rfl))
  f240 := Tryz.func150.trans (congrArg some (by kernel_rfl))
  f276 := Tryz.func184.trans (congrArg some (by kernel_rfl))
  t0 := Tryz.underlying0
  a0 := Tryz.isAgg0
  z0 := Tryz.sizeOf0
  v0 := Tryz.zeroValue0
  t3 := Tryz.underlying3
  a3 := Tryz.isAgg3
  z3 := Tryz.sizeOf3
  v3 := Tryz.zeroValue3
  t4 := Tryz.underlying4
  a4 := Tryz.isAgg4
  z4 := Tryz.sizeOf4
  v4 := Tryz.zeroValue4
  t9 := Tryz.underlying9
  a9 := Tryz.isAgg9
  z9 := Tryz.sizeOf9
  v9 := Tryz.zeroValue9
  t20 := Tryz.underlying20
  a20 := Tryz.isAgg20
  z20 := Tryz.sizeOf20
  v20 := Tryz.zeroValue20
  t37 := Tryz.underlying142
  a37 := Tryz.isAgg142
  z37 := Tryz.sizeOf142
  v37 := Tryz.zeroValue142
  t70 := Tryz.underlying141
  a70 := Tryz.isAgg141
  z70 := Tryz.sizeOf141
  v70 := Tryz.zeroValue141
  t72 := Tryz.underlying144
  a72 := Tryz.isAgg144
  z72 := Tryz.sizeOf144
  v72 := Tryz.zeroValue144
  t75 := Tryz.underlying146
  a75 := Tryz.isAgg146
  z75 := Tryz.sizeOf146
  v75 := Tryz.zeroValue146
  t164 := Tryz.underlying236
  a164 := Tryz.isAgg236
  z164 := Tryz.sizeOf236
  v164 := Tryz.zeroValue236 }
def Tryz.lays167_ren : Go.Shelf.Ren := ⟨fun | 240 => 150 | 276 => 184 | 166 => 100 | 167 => 104 | n => n, fun | 0 => 0 | 3 => 3 | 4 => 4 | 5 => 5 | 9 => 9 | 20 => 20 | 37 => 142 | 70 => 141 | 72 => 144 | 75 => 146 | 80 => 89 | 164 => 236 | n => n, fun | n => n⟩
theorem Tryz.lays167 : Go.Proofs.Lays.n167 Tryz.prog Tryz.lays167_ren := {
  mixed := by kernel_rfl
  f167 := Tryz.func104.trans (congrArg some (by kernel_rfl))
  f240 := Tryz.func150.trans (congrArg some (by kernel_rfl))
  f276 := Tryz.func184.trans (congrArg some (by kernel_rfl))
  t0 := Tryz.underlying0
  a0 := Tryz.isAgg0
  z0 := Tryz.sizeOf0
  v0 := Tryz.zeroValue0
  t4 := Tryz.underlying4
  a4 := Tryz.isAgg4
  z4 := Tryz.sizeOf4
  v4 := Tryz.zeroValue4
  t5 := Tryz.underlying5
  a5 := Tryz.isAgg5
  z5 := Tryz.sizeOf5
  v5 := Tryz.zeroValue5
  t9 := Tryz.underlying9
  a9 := Tryz.isAgg9
  z9 := Tryz.sizeOf9
  v9 := Tryz.zeroValue9
  t20 := Tryz.underlying20
  a20 := Tryz.isAgg20
  z20 := Tryz.sizeOf20
  v20 := Tryz.zeroValue20
  t37 := Tryz.underlying142
  a37 := Tryz.isAgg142
  z37 := Tryz.sizeOf142
  v37 := Tryz.zeroValue142
  t70 := Tryz.underlying141
  a70 := Tryz.isAgg141
  z70 := Tryz.sizeOf141
  v70 := Tryz.zeroValue141
  t72 := Tryz.underlying144
  a72 := Tryz.isAgg144
  z72 := Tryz.sizeOf144
  v72 := Tryz.zeroValue144
  t75 := Tryz.underlying146
  a75 := Tryz.isAgg146
  z75 := Tryz.sizeOf146
  v75 := Tryz.zeroValue146
  t164 := Tryz.underlying236
  a164 := Tryz.isAgg236
  z164 := Tryz.sizeOf236
  v164 := Tryz.zeroValue236 }
theorem Tryz.Builder_X72_240 : Builder.X72 Tryz.prog Tryz.lays240_ren where
  sizeBuilder := by kernel_rfl
  liesBuilder := by kernel_rfl
theorem Tryz.Builder_Extra_166 : Builder.Extra Tryz.prog Tryz.lays166_ren where
  sizeBuilder := by kernel_rfl
  liesBuilder := by kernel_rfl
  t5 := Tryz.underlying5
  a5 := Tryz.isAgg5
  z5 := Tryz.sizeOf5
  v5 := Tryz.zeroValue5
  infoByte := by kernel_rfl
  cellsByte := by kernel_rfl
  sizeByte := by kernel_rfl
  neB5 := by decide
theorem Tryz.Builder_Extra_167 : Builder.Extra Tryz.prog Tryz.lays167_ren where
  sizeBuilder := by kernel_rfl
  liesBuilder := by kernel_rfl
  t5 := Tryz.underlying5
  a5 := Tryz.isAgg5
  z5 := Tryz.sizeOf5
  v5 := Tryz.zeroValue5
  infoByte := by kernel_rfl
  cellsByte := by kernel_rfl
  sizeByte := by kernel_rfl
  neB5 := by decide
end Go.Proofs
namespace Go.Proofs.YtmimninicegjcaaGreatDoor
open Go.RowKit Go.Shelf Go.Lib Go.Proofs.YtmimninicegjcaaGreatDoorW.PrintWords
set_option linter.unusedVariables false
set_option linter.unusedSimpArgs false
/-- Block b is a builder of one's own that holds these bytes. -/
structure Build (b : Nat) (l : List UInt8) (w : World) : Prop where mk :: (out : Lib.IsBuilder 144 5 b b (Lib.byteCells l) w)
theorem byteCells_length (l : List UInt8) : (Lib.byteCells l).length = l.length := by simp [Lib.byteCells]
theorem byteCells_append (l m : List UInt8) : Lib.byteCells (l ++ m) = Lib.byteCells l ++ Lib.byteCells m := by simp [Lib.byteCells]
theorem strCells_eq (s : ByteArray) : Lib.strCells s = Lib.byteCells s.data.toList := by simp [Lib.strCells, Lib.byteCells]
theorem Build.new (w : World) : Build w.heap.size [] (w.alloc (.cells #[.pointer none, .slice none 0 0] 144)) := ⟨Lib.fresh_isBuilder _ _ w⟩
theorem builderAt_below {T e : TypeId} {B b : Nat} {p : Value} {bs : List Value} {w w1 : World} (h : Lib.BuilderAt T e B b p bs w) (hb : Below w.heap.size w w1) : Lib.BuilderAt T e B b p bs w1 := by
  obtain ⟨h1, v, h2, h3, h4⟩ := h
  exact ⟨h1, v, blk_below h2 hb, pw_own_below h3 hb, h4⟩
theorem Build.below {b : Nat} {l : List UInt8} {w w1 : World} (h : Build b l w) (hb : Below w.heap.size w w1) : Build b l w1 :=
  ⟨h.out.imp (fun k => builderAt_below k hb) (fun k => builderAt_below k hb)⟩
theorem Build.lt {b : Nat} {l : List UInt8} {w : World} (h : Build b l w) : b < w.heap.size := h.out.elim (·.lt) (·.lt)
theorem Build.writeString {b : Nat} {l : List UInt8} {w : World} (h : Build b l w) (s : ByteArray) (hl : l.length + s.size ≤ 140737488355328) :
    Calls Tryz.prog 100 #[.pointer (some ⟨b, 0, none⟩), .string s] w fun e w' => e = .returned (.tuple #[.int .i64 s.size, .nilIface]) ∧ Build b (l ++ s.data.toList) w' ∧ Below b w w' := by
  refine (Any.Builder_WriteString Tryz.lays166 Tryz.Builder_Extra_166 b b _ s w h.out (by rw [byteCells_length]; exact hl) (Nat.le_of_lt h.lt)).mono ?_
  rintro e w' ⟨rfl, h1, h2⟩
  exact ⟨rfl, ⟨.inr (by rw [byteCells_append, ← strCells_eq]; exact h1)⟩, h2⟩
theorem Build.writeByte {b : Nat} {l : List UInt8} {w : World} (h : Build b l w) (c : UInt8) (hl : l.length + 1 ≤ 140737488355328) :
    Calls Tryz.prog 104 #[.pointer (some ⟨b, 0, none⟩), .int .u8 (c.toNat : Int)] w fun e w' => e = .returned .nilIface ∧ Build b (l ++ [c]) w' ∧ Below b w w' := by
  refine (Any.Builder_WriteByte Tryz.lays167 Tryz.Builder_Extra_167 b b _ (c.toNat : Int) w h.out (by rw [byteCells_length]; exact hl) (Nat.le_of_lt h.lt)).mono ?_
  rintro e w' ⟨rfl, h1, h2⟩
  exact ⟨rfl, ⟨.inr (by rw [byteCells_append]; exact h1)⟩, h2⟩
theorem Build.string {b : Nat} {l : List UInt8} {w : World} (h : Build b l w) :
    Calls Tryz.prog 103 #[.pointer (some ⟨b, 0, none⟩)] w fun e w' => e = .returned (.string ⟨l.toArray⟩) ∧ Below b w w' :=
  Tryz.Builder_String_any b b l w h.out (Nat.le_of_lt h.lt)
end Go.Proofs.YtmimninicegjcaaGreatDoor
/- sheet.grid: rows of cells as lines. -/
namespace Go.Proofs.YtmimninicegjcaaGreatDoor
open Go.RowKit Go.Shelf Go.Lib Go.Proofs.YtmimninicegjcaaGreatDoorW.PrintWords Go.Proofs.YtmimninicegjcaaGreatDoorW.PrintLast Go.Proofs.YtmimninicegjcaaGreatDoorW.PrintMore
set_option linter.unusedVariables false
set_option linter.unusedSimpArgs false

/-! ### the plain functions -/
def sizeAt (r : List ByteArray) (c : Nat) : Nat := match r[c]? with | some x => x.size | none => 0
/-- A column's width. -/
def wid (rows : List (List ByteArray)) (c : Nat) : Nat := rows.foldl (fun m r => max m (sizeAt r c)) 0
theorem width_loop (l : List (List ByteArray)) (c : Nat) (hl : l.length ≤ 1099511627776) (d : Nat) : ∀ (i k m : Nat), i + d = l.length → d < k →
    QT.sheet_width_string.l0 k (c : Int) (m : Int) l (l.length : Int) (i : Int) = some (((l.drop i).foldl (fun m r => max m (sizeAt r c)) m : Nat) : Int) := by
  induction d with
  | zero =>
    intro i k m hi hk
    obtain ⟨k, rfl⟩ : ∃ m, k = m + 1 := ⟨k - 1, by omega⟩
    simp only [QT.sheet_width_string.l0]
    rw [if_neg (by omega), List.drop_of_length_le (by omega)]
    rfl
  | succ d ih =>
    intro i k m hi hk
    obtain ⟨k, rfl⟩ : ∃ m, k = m + 1 := ⟨k - 1, by omega⟩
    simp only [QT.sheet_width_string.l0]
    have hlt : i < l.length := by omega
    rw [if_pos (by omega), if_pos (by omega), if_pos (by omega), show wrap64 ((i : Int) + 1) = ((i + 1 : Nat) : Int) by unfold wrap64; omega]
    rw [List.drop_eq_getElem_cons hlt, List.foldl_cons]
    have e : QT.rd_L4 l (i : Int) = l[i] := by simp [QT.rd_L4, List.getD_eq_getElem?_getD, List.getElem?_eq_getElem hlt]
    rw [e]
    by_cases hc : c < l[i].length
    · rw [if_pos (by omega), if_pos (by omega)]
      have e2 : (rdOf ByteArray.empty l[i] (c : Int)).size = sizeAt l[i] c := by simp [rdOf, sizeAt, List.getD_eq_getElem?_getD, List.getElem?_eq_getElem hc]
      rw [e2, show mx (m : Int) ((sizeAt l[i] c : Nat) : Int) = ((max m (sizeAt l[i] c) : Nat) : Int) by unfold mx; split <;> omega]
      exact ih (i + 1) k _ (by omega) (by omega)
    · rw [if_neg (by omega), ih (i + 1) k m (by omega) (by omega)]
      have e2 : sizeAt l[i] c = 0 := by simp [sizeAt, List.getElem?_eq_none (Nat.not_lt.1 hc)]
      rw [e2, Nat.max_zero]
theorem width_some (l : List (List ByteArray)) (c : Nat) (hl : l.length ≤ 1099511627776) : QT.sheet_width_string.f (l.length + 1) l (c : Int) = some (wid l c : Int) :=
  width_loop l c hl l.length 0 (l.length + 1) 0 (by omega) (by omega)
/-- The longest row's length. -/
def longest (rows : List (List ByteArray)) : Nat := rows.foldl (fun m r => max m r.length) 0
theorem longest_snoc (l : List (List ByteArray)) (r : List ByteArray) : longest (l ++ [r]) = max (longest l) r.length := by simp [longest]
def piece (R : Nat → Bool) (W : Nat → Nat) (c : Nat) (x : ByteArray) : List UInt8 :=
  (if 0 < c then [32, 32] else []) ++ (if R c = true then List.replicate (W c - x.size) 32 ++ x.data.toList else x.data.toList ++ List.replicate (W c - x.size) 32)
/-- A row's first cells, one behind the other. -/
def lineTo (R : Nat → Bool) (W : Nat → Nat) (row : List ByteArray) (k : Nat) : List UInt8 := ((row.take k).zipIdx.map fun p => piece R W p.2 p.1).flatten
theorem lineTo_succ (R : Nat → Bool) (W : Nat → Nat) (row : List ByteArray) (k : Nat) (h : k < row.length) : lineTo R W row (k + 1) = lineTo R W row k ++ piece R W k row[k] := by
  unfold lineTo
  rw [List.take_succ_eq_append_getElem h, List.zipIdx_append, List.map_append, List.flatten_append]
  simp [Nat.min_eq_left (Nat.le_of_lt h)]
def lineText (R : Nat → Bool) (W : Nat → Nat) (row : List ByteArray) : List UInt8 := Lib.trimRightB (lineTo R W row row.length) 32 ++ [10]
def gridTo (R : Nat → Bool) (rows : List (List ByteArray)) (k : Nat) : List UInt8 := ((rows.take k).map fun r => lineText R (wid rows) r).flatten
def gridText (R : Nat → Bool) (rows : List (List ByteArray)) : List UInt8 := gridTo R rows rows.length
theorem gridTo_succ (R : Nat → Bool) (rows : List (List ByteArray)) (k : Nat) (h : k < rows.length) : gridTo R rows (k + 1) = gridTo R rows k ++ lineText R (wid rows) rows[k] := by
  unfold gridTo
  rw [List.take_succ_eq_append_getElem h, List.map_append, List.flatten_append]
  simp

/-! ### reading -/
theorem rows_at {w : World} {A : Option Addr} {l : List (List ByteArray)} (h : Kd.C (Kd.slice 9 Kd.string) w A l.length l) :
    (l = [] ∨ ∃ ad, A = some ad) ∧ ∀ ad, A = some ad → ∀ i (hi : i < l.length), ∃ A' c', w.cell? (ad.add i) = some (.slice A' l[i].length c') ∧ l[i].length ≤ c' ∧ Kd.C Kd.string w A' l[i].length l[i] := by
  obtain ⟨h1, h2, h3⟩ := h
  refine ⟨?_, fun ad e i hi => ?_⟩
  · cases l with
    | nil => exact .inl rfl
    | cons x l => obtain ⟨ad, e, _⟩ := h3 (by simp); exact .inr ⟨ad, e⟩
  · obtain ⟨ad', e', hc⟩ := h3 (by omega)
    rw [e] at e'
    obtain rfl := Option.some.inj e'
    obtain ⟨c, hl, ⟨A', c', rfl, hl', hC⟩, hcell⟩ := hc i l[i] (List.getElem?_eq_getElem hi)
    have := hcell 0 _ rfl
    exact ⟨A', c', by simpa [Kd.slice] using this, hl', hC⟩
theorem strs_at {w : World} {A : Option Addr} {l : List ByteArray} (h : Kd.C Kd.string w A l.length l) :
    (l = [] ∨ ∃ ad, A = some ad) ∧ ∀ ad, A = some ad → ∀ i (hi : i < l.length), w.cell? (ad.add i) = some (.string l[i]) := by
  refine ⟨?_, fun ad e i hi => ?_⟩
  · cases l with
    | nil => exact .inl rfl
    | cons x l => obtain ⟨ad, e, _⟩ := Kd.at_string h 0 (by omega) (by simp); exact .inr ⟨ad, e⟩
  · obtain ⟨ad', e', hc⟩ := Kd.at_string h (i : Int) (by omega) (by omega)
    rw [e] at e'
    obtain rfl := Option.some.inj e'
    rw [Int.toNat_natCast] at hc
    rw [hc]
    simp [rdOf, List.getD_eq_getElem?_getD, List.getElem?_eq_getElem hi]
theorem info_int : (Tryz.prog.info? 3).map (fun i => (i.zero, i.size, i.bytes)) = some (some (.int .i64 0), 1, 8) := by kernel_rfl
/-- The first columns' widths. -/
def widths (l : List (List ByteArray)) (n : Nat) : List Int := (List.range n).map fun c => (wid l c : Int)
theorem widths_succ (l : List (List ByteArray)) (n : Nat) : widths l (n + 1) = widths l n ++ [(wid l n : Int)] := by simp [widths, List.range_succ]
theorem widths_length (l : List (List ByteArray)) (n : Nat) : (widths l n).length = n := by simp [widths]

theorem sizeAt_le (l : List (List ByteArray)) (r : List ByteArray) (hr : r ∈ l) (c : Nat) : sizeAt r c ≤ wid l c := by
  have key : ∀ (m : List (List ByteArray)) (n : Nat), n ≤ m.foldl (fun m r => max m (sizeAt r c)) n ∧ ∀ r ∈ m, sizeAt r c ≤ m.foldl (fun m r => max m (sizeAt r c)) n := by
    intro m
    induction m with
    | nil => exact fun n => ⟨Nat.le_refl _, by simp⟩
    | cons x m ih =>
      intro n
      rw [List.foldl_cons]
      obtain ⟨h1, h2⟩ := ih (max n (sizeAt x c))
      refine ⟨by omega, fun r hr => ?_⟩
      rcases List.mem_cons.1 hr with rfl | hr
      · omega
      · exact h2 r hr
  exact (key l 0).2 r hr
theorem piece_length (R : Nat → Bool) (W : Nat → Nat) (c : Nat) (x : ByteArray) (h : x.size ≤ W c) : (piece R W c x).length ≤ W c + 2 := by
  unfold piece
  have hx : x.data.toList.length = x.size := by simp
  split <;> split <;> simp [hx] <;> omega
theorem lineTo_length (R : Nat → Bool) (W : Nat → Nat) (row : List ByteArray) (hW : ∀ c, W c ≤ 4194304) (hx : ∀ c (h : c < row.length), row[c].size ≤ W c) (k : Nat) (hk : k ≤ row.length) : (lineTo R W row k).length ≤ k * 4194306 := by
  induction k with
  | zero => simp [lineTo]
  | succ k ih =>
    rw [lineTo_succ R W row k hk, List.length_append]
    have h1 := ih (by omega)
    have h2 := piece_length R W k row[k] (hx k hk)
    have h3 := hW k
    omega
theorem longest_le (l : List (List ByteArray)) (r : List ByteArray) (hr : r ∈ l) : r.length ≤ longest l := by
  have key : ∀ (m : List (List ByteArray)) (n : Nat), n ≤ m.foldl (fun m r => max m r.length) n ∧ ∀ r ∈ m, r.length ≤ m.foldl (fun m r => max m r.length) n := by
    intro m
    induction m with
    | nil => exact fun n => ⟨Nat.le_refl _, by simp⟩
    | cons x m ih =>
      intro n
      rw [List.foldl_cons]
      obtain ⟨h1, h2⟩ := ih (max n x.length)
      refine ⟨by omega, fun r hr => ?_⟩
      rcases List.mem_cons.1 hr with rfl | hr
      · omega
      · exact h2 r hr
  exact (key l 0).2 r hr
theorem widths_cell {W : World} {base lo c : Nat} {A : Option Addr} {l : List (List ByteArray)} (h : W.ownsRow base 3 1 (.slice A lo c) (widths l lo).length (nums .i64 (widths l lo))) (j : Nat) (hj : j < lo) :
    ∃ ad, A = some ad ∧ W.cell? (ad.add j) = some (.int .i64 (wid l j : Int)) := by
  obtain ⟨A', c', e, hr⟩ := own_reads h
  rw [widths_length] at e hr
  cases e
  obtain ⟨ad, e, hc⟩ := hr.at_ (j : Int) (by omega) (by omega)
  refine ⟨ad, e, ?_⟩
  rw [Int.toNat_natCast] at hc
  rw [hc]
  simp [rd, widths, List.getD_eq_getElem?_getD, hj]
def blanksB (n : Nat) : ByteArray := ⟨(Lib.repeatL [32] n).toArray⟩
theorem Repeat_blank (k : Nat) (hk : k ≤ 1099511627776) : L_Repeat.f ⟨#[32]⟩ (k : Int) = some (blanksB k) := by
  unfold L_Repeat.f blanksB
  have h1 : (⟨#[32]⟩ : ByteArray).size ≤ 64 := by decide
  have h2 : (k : Int) ≤ 1099511627776 := by omega
  rw [if_pos ⟨Int.natCast_nonneg k, h2, h1⟩, Int.toNat_natCast]
theorem blanksB_data (n : Nat) : (blanksB n).data.toList = List.replicate n 32 := by
  have := Lib.repeatL_replicate 32 1 n
  simpa [blanksB] using this
theorem blanksB_size (n : Nat) : (blanksB n).size = n := by
  have h : (blanksB n).data.toList.length = n := by rw [blanksB_data, List.length_replicate]
  simpa using h

set_option maxHeartbeats 4000000 in
set_option maxRecDepth 100000 in
theorem grid_calls (A0 : Option Addr) (c0 : Nat) (l0 : List (List ByteArray)) (fR : FuncId) (q : Nat) (R : Nat → Bool) (w : World)
    (hr0 : Kd.C (Kd.slice 9 Kd.string) w A0 l0.length l0) (hc0 : l0.length ≤ c0) (hN : l0.length ≤ 4194304) (hM : ∀ r ∈ l0, r.length ≤ 4194304) (hW : ∀ c, wid l0 c ≤ 4194304) (hG : ∀ k, (gridTo R l0 k).length ≤ 70368744177664)
    (hE : ∀ args W, (callFunc fR args).run Tryz.prog W = .ok (.enter fR args) W)
    (hR : ∀ (c : Nat) (W : World), Below w.heap.size w W → Calls Tryz.prog fR #[.int .i64 (c : Int), .pointer (some ⟨q, 0, none⟩)] W fun e W' => e = .returned (.bool (R c)) ∧ W = W') :
    Calls Tryz.prog 46 #[.slice A0 l0.length c0, .func (.func fR) #[] #[.pointer (some ⟨q, 0, none⟩)]] w fun e w' =>
      e = .returned (.string ⟨(gridText R l0).toArray⟩) ∧ Below w.heap.size w w' := by
  have HR0 := Aside0.mk hr0
  have HN := Aside0.mk hN
  have HCL := Aside0.mk hc0
  have HM := Aside0.mk hM
  have HW := Aside0.mk hW
  have HG := Aside0.mk hG
  have HRR := Aside0.mk hR
  have HRD := Aside0.mk (rows_at hr0)
  clear hr0 hM hW hG hR hc0
  have i0 : (l0.length : Int) ≤ 4194304 := by omega
  clear hN
  go_enter Tryz.func46, Tryz.ntmps46
  go_wp2
  go_loopw [5, 18] (fun v5 v18 wr => ∃ k : Nat, v18 = .int .i64 k ∧ k ≤ l0.length ∧ Aside0 (wr.ownsRow w.heap.size 3 1 v5 (widths l0 (longest (l0.take k))).length (nums .i64 (widths l0 (longest (l0.take k))))) ∧ Aside0 (Below w.heap.size w wr)) (fun _ v _ => l0.length - (RowKit.intOf v).toNat)
  case atStart => exact ⟨0, rfl, Nat.zero_le _, ⟨own_nil w w.heap.size _ _⟩, ⟨Below.refl _ _⟩⟩
  case round =>
    obtain ⟨k, rfl, hk, HO, HB⟩ := hrel
    obtain ⟨A5, c5, hv5⟩ := own_slice HO.out
    rw [widths_length] at hv5
    subst hv5
    by_cases hlt : k < l0.length
    · obtain ⟨ad, rfl⟩ : ∃ ad, A0 = some ad := by
        rcases HRD.out.1 with h | h
        · subst h; simp at hlt
        · exact h
      obtain ⟨A', c', hcell, hl', hC'⟩ := (rows_at (Kd.C_below HR0.out HB.out)).2 ad rfl k hlt
      have hrow := HM.out l0[k] (List.getElem_mem hlt)
      have hls : longest (l0.take (k + 1)) = max (longest (l0.take k)) l0[k].length := by rw [List.take_succ_eq_append_getElem hlt, longest_snoc]
      generalize l0[k] = r at *
      have i1 : (r.length : Int) ≤ 4194304 := by omega
      have HLS := Aside0.mk hls
      have HC' := Aside0.mk hC'
      clear hls hC' hrow hl'
      obtain ⟨wo, hwo⟩ : ∃ x, x = wr := ⟨_, rfl⟩
      have HWO := Aside0.mk hwo
      clear hwo
      have hlong : longest (l0.take k) ≤ 4194304 := by
        have : ∀ m : List (List ByteArray), (∀ r ∈ m, r.length ≤ 4194304) → longest m ≤ 4194304 := fun m hm => by
          unfold longest
          suffices ∀ (n : Nat), n ≤ 4194304 → m.foldl (fun m r => max m r.length) n ≤ 4194304 from this 0 (by omega)
          induction m with
          | nil => exact fun n hn => hn
          | cons x m ih =>
            intro n hn
            rw [List.foldl_cons]
            exact ih (fun r hr => hm r (by simp [hr])) _ (by have := hm x (by simp); omega)
        exact this _ (fun r hr => HM.out r (List.mem_of_mem_take hr))
      obtain ⟨lo, hlo⟩ : ∃ x, longest (l0.take k) = x := ⟨_, rfl⟩
      rw [hlo]
      rw [hlo] at hlong HO
      have i2 : (lo : Int) ≤ 4194304 := by omega
      have HLO := Aside0.mk hlo
      clear hlong hlo
      go_wp2
      go_loopw [5, 8] (fun v5 v8 wr => ∃ c : Nat, v8 = .int .i64 c ∧ Aside0 (lo ≤ c ∧ c ≤ max lo r.length) ∧ Aside0 (wr.ownsRow w.heap.size 3 1 v5 (widths l0 c).length (nums .i64 (widths l0 c))) ∧ Aside0 (Below w.heap.size w wr)) (fun _ v _ => 4194304 - (RowKit.intOf v).toNat)
      case atStart => exact ⟨lo, rfl, ⟨by omega⟩, HO, HB⟩
      case round =>
        obtain ⟨c, rfl, hcb, HO2, HB2⟩ := hrel
        obtain ⟨A6, c6, hv6⟩ := own_slice HO2.out
        rw [widths_length] at hv6
        subst hv6
        have ic : (c : Int) ≤ 4194304 := by have := hcb.out; omega
        by_cases hlt2 : c < r.length
        · have i3 : (c : Int) < (r.length : Int) := by omega
          have HV := Aside0.mk (width_some l0 c (by omega))
          go_wp2_with fail
          refine (QT.sheet_width_string.calls _ _ _ l0 (c : Int) _ _ (Kd.C_below HR0.out HB2.out) HCL.out HV.out).mono ?_
          rintro e w2 ⟨rfl, hb2⟩
          have HO3 := Aside0.mk (pw_own_below HO2.out hb2)
          have HB3 := Aside0.mk (below_step HB2.out hb2)
          clear hb2
          go_wp2_with (at_builtin; refine print_append_num (w0 := w) w.heap.size rfl (.tmp 30) (.tmp 34) 33 3 .i64 8 rfl Tryz.underlying33 info_int (by decide) _ (widths l0 c) (wid l0 c : Int) rfl rfl ?aO ?aB ?aS ?aL ?_; (case aO => exact HO3.out); (case aB => exact HB3.out); (case aS => exact HB3.out.size); (case aL => rw [widths_length]; omega); intro v1 w3 hown hB1 hg hat; rw [← widths_succ] at hown; have HO4 := Aside0.mk hown; have HB4 := Aside0.mk hB1; clear hown hB1 hg hat)
          go_roundw
          case rel => exact ⟨c + 1, by go_num, ⟨by have := hcb.out; omega⟩, HO4, HB4⟩
          case measure => simp [RowKit.intOf]; omega
        · have i3 : (r.length : Int) ≤ (c : Int) := by omega
          go_wp2
          go_roundw
          case rel =>
            have ec : longest (l0.take (k + 1)) = c := by have h1 := HLS.out; rw [HLO.out] at h1; have := hcb.out; omega
            exact ⟨k + 1, by go_num, hlt, by rw [ec]; exact HO2, HB2⟩
          case measure => simp [RowKit.intOf]; omega
    · have hk' : k = l0.length := by omega
      subst hk'
      obtain ⟨lo, hlo⟩ : ∃ x, longest (l0.take l0.length) = x := ⟨_, rfl⟩
      rw [hlo] at HO
      rw [hlo]
      have HLO := Aside0.mk hlo
      clear hlo
      go_wp2
      obtain ⟨wo, rfl⟩ : ∃ wo : World, wo = wr := ⟨_, rfl⟩
      go_loopw [39] (fun v wr => ∃ k : Nat, v = .int .i64 k ∧ k ≤ l0.length ∧ Aside0 (Build wo.heap.size (gridTo R l0 k) wr) ∧ Aside0 (Below wo.heap.size wo wr)) (fun v _ => l0.length - (RowKit.intOf v).toNat)
      case atStart => exact ⟨0, rfl, Nat.zero_le _, ⟨Build.new wo⟩, ⟨below_alloc (Below.refl _ _) _⟩⟩
      case round =>
        obtain ⟨k, rfl, hk, HG1, HB1⟩ := hrel
        by_cases hlt : k < l0.length
        · obtain ⟨ad, rfl⟩ : ∃ ad, A0 = some ad := by
            rcases HRD.out.1 with h | h
            · subst h; simp at hlt
            · exact h
          have HBW := Aside0.mk (below_step HB.out HB1.out)
          obtain ⟨A', c', hcell, hl', hC'⟩ := (rows_at (Kd.C_below HR0.out HBW.out)).2 ad rfl k hlt
          have hrow := HM.out l0[k] (List.getElem_mem hlt)
          have hsz : ∀ c (h : c < l0[k].length), l0[k][c].size ≤ wid l0 c := fun c h => by
            have := sizeAt_le l0 l0[k] (List.getElem_mem hlt) c
            simpa [sizeAt, List.getElem?_eq_getElem h] using this
          have hgs := gridTo_succ R l0 k hlt
          have hlg : l0[k].length ≤ lo := by rw [← HLO.out, List.take_length]; exact longest_le l0 _ (List.getElem_mem hlt)
          generalize l0[k] = r at *
          have HSZ := Aside0.mk hsz
          have HGS := Aside0.mk hgs
          have HLG := Aside0.mk hlg
          have HC' := Aside0.mk hC'
          have i1 : (r.length : Int) ≤ 4194304 := by omega
          have HROW := Aside0.mk hrow
          clear hsz hgs hlg hC' hrow hl'
          go_wp2
          obtain ⟨wp, rfl⟩ : ∃ wp : World, wp = wr := ⟨_, rfl⟩
          go_loopw [45] (fun v wr => ∃ j : Nat, v = .int .i64 j ∧ j ≤ r.length ∧ Aside0 (Build wp.heap.size (lineTo R (wid l0) r j) wr) ∧ Aside0 (Below wp.heap.size wp wr)) (fun v _ => r.length - (RowKit.intOf v).toNat)
          case atStart => exact ⟨0, rfl, Nat.zero_le _, ⟨Build.new wp⟩, ⟨below_alloc (Below.refl _ _) _⟩⟩
          case round =>
            obtain ⟨j, rfl, hj, HL1, HB2⟩ := hrel
            have HBX := Aside0.mk (below_step HBW.out HB2.out)
            by_cases hlt2 : j < r.length
            · have i2 : (j : Int) < (r.length : Int) := by omega
              obtain ⟨hA', hS'⟩ := strs_at (Kd.C_below HC'.out HB2.out)
              obtain ⟨ad', rfl⟩ : ∃ ad, A' = some ad := by
                rcases hA' with h | h
                · subst h; simp at hlt2
                · exact h
              have hcell2 := hS' ad' rfl j hlt2
              have hx := HSZ.out j hlt2
              have hls := lineTo_succ R (wid l0) r j hlt2
              have hln := lineTo_length R (wid l0) r HW.out HSZ.out j (by omega)
              generalize r[j] = x at *
              have HLS := Aside0.mk hls
              have HLN := Aside0.mk hln
              have HX := Aside0.mk hx
              clear hA' hS' hls hln hx
              by_cases hj0 : 0 < j
              · have i3 : 0 < (j : Int) := by omega
                go_wp2_with fail
                refine (HL1.out.writeString ⟨#[32, 32]⟩ (by have := HLN.out; have := HROW.out; have e : (⟨#[32, 32]⟩ : ByteArray).size = 2 := rfl; rw [e]; omega)).mono ?_
                rintro e w4 ⟨rfl, hb4, hbl4⟩
                have HL2 := Aside0.mk hb4
                have HBQ := Aside0.mk (HB2.out.trans hbl4)
                clear hb4 hbl4
                have HBO := Aside0.mk (below_step HB1.out HBQ.out)
                have HBZ := Aside0.mk (below_step HB.out HBO.out)
                obtain ⟨adw, eA5, hwc⟩ := widths_cell (pw_own_below HO.out HBO.out) j (by have := HLG.out; omega)
                subst eA5
                have ilo : (j : Int) < (lo : Int) := by have := HLG.out; omega
                have hwj := HW.out j
                have hxs := HX.out
                obtain ⟨n, hn⟩ : ∃ n : Nat, wid l0 j = x.size + n := ⟨wid l0 j - x.size, by omega⟩
                have i6 : (wid l0 j : Int) - (x.size : Int) = (n : Int) := by omega
                have i7 : (x.size : Int) ≤ (wid l0 j : Int) := by omega
                have i8 : (wid l0 j : Int) ≤ 4194304 := by omega
                have HI6 := Aside0.mk i6
                have HREP := Aside0.mk (Repeat_blank n (by omega))
                have HN4 := Aside0.mk hn
                have hnn : n ≤ 4194304 := by omega
                have hxx : x.size ≤ 4194304 := by omega
                have HNN := Aside0.mk hnn
                have HXX := Aside0.mk hxx
                clear i6 hn hwj hxs hnn hxx
                go_wp2_with fail
                rw [HI6.out]
                clear i7 i8
                refine (L_Repeat.calls _ _ _ _ HREP.out).mono ?_
                rintro e w5 ⟨rfl, hb5⟩
                have HL3 := Aside0.mk (HL2.out.below hb5)
                have HBR := Aside0.mk (below_then HBQ.out (Nat.le_of_lt HL2.out.lt) hb5)
                clear hb5
                go_wp2_with fail
                refine (HRR.out j _ (below_step HB.out (below_step HB1.out HBR.out))).mono ?_
                rintro e w6 ⟨rfl, rfl⟩
                by_cases hRj : R j = true
                · have HRJ := Aside0.mk hRj
                  rw [hRj]
                  clear hRj
                  go_wp2_with fail
                  refine (HL3.out.writeString (blanksB n) (by have := HLN.out; have := HROW.out; have := HNN.out; rw [blanksB_size]; simp; omega)).mono ?_
                  rintro e w7 ⟨rfl, hb7, hbl7⟩
                  have HL4 := Aside0.mk hb7
                  have HBS := Aside0.mk (HBR.out.trans hbl7)
                  clear hb7 hbl7
                  go_wp2_with fail
                  refine (HL4.out.writeString x (by have := HLN.out; have := HROW.out; have := HNN.out; have := HXX.out; rw [List.length_append, blanksB_data, List.length_replicate]; simp; omega)).mono ?_
                  rintro e w8 ⟨rfl, hb8, hbl8⟩
                  have HL5 := Aside0.mk hb8
                  have HBT := Aside0.mk (HBS.out.trans hbl8)
                  clear hb8 hbl8
                  go_wp2_with fail
                  go_roundw
                  case rel =>
                    refine ⟨j + 1, by go_num, hlt2, ⟨?_⟩, HBT⟩
                    have e : lineTo R (wid l0) r (j + 1) = lineTo R (wid l0) r j ++ (⟨#[32, 32]⟩ : ByteArray).data.toList ++ (blanksB n).data.toList ++ x.data.toList := by
                      rw [HLS.out, piece, if_pos hj0, if_pos HRJ.out, blanksB_data, show wid l0 j - x.size = n by have := HN4.out; omega]; simp
                    rw [e]
                    exact HL5.out
                  case measure => simp [RowKit.intOf]; omega
                · have hRj' : R j = false := by simpa using hRj
                  have HRJ := Aside0.mk hRj
                  rw [hRj']
                  clear hRj hRj'
                  go_wp2_with fail
                  refine (HL3.out.writeString x (by have := HLN.out; have := HROW.out; have := HNN.out; have := HXX.out; simp; omega)).mono ?_
                  rintro e w7 ⟨rfl, hb7, hbl7⟩
                  have HL4 := Aside0.mk hb7
                  have HBS := Aside0.mk (HBR.out.trans hbl7)
                  clear hb7 hbl7
                  go_wp2_with fail
                  refine (HL4.out.writeString (blanksB n) (by have := HLN.out; have := HROW.out; have := HNN.out; have := HXX.out; rw [blanksB_size]; simp; omega)).mono ?_
                  rintro e w8 ⟨rfl, hb8, hbl8⟩
                  have HL5 := Aside0.mk hb8
                  have HBT := Aside0.mk (HBS.out.trans hbl8)
                  clear hb8 hbl8
                  go_wp2_with fail
                  go_roundw
                  case rel =>
                    refine ⟨j + 1, by go_num, hlt2, ⟨?_⟩, HBT⟩
                    have e : lineTo R (wid l0) r (j + 1) = lineTo R (wid l0) r j ++ (⟨#[32, 32]⟩ : ByteArray).data.toList ++ x.data.toList ++ (blanksB n).data.toList := by
                      rw [HLS.out, piece, if_pos hj0, if_neg HRJ.out, blanksB_data, show wid l0 j - x.size = n by have := HN4.out; omega]; simp
                    rw [e]
                    exact HL5.out
                  case measure => simp [RowKit.intOf]; omega
              · have hj0' : j = 0 := by omega
                have HL2 := HL1
                have HBQ := HB2
                subst hj0'
                have i3 : (0 : Int) < (r.length : Int) := by omega
                have i9 : decide (0 < r.length) = true := decide_eq_true hlt2
                rw [show ((0 : Nat) : Int) = (0 : Int) from rfl]
                have az : ∀ z : Addr, z.add 0 = z := fun z => by unfold Addr.add; split <;> simp_all
                have hcell3 : wr.cell? ad' = some (.string x) := by have := hcell2; rwa [az] at this
                clear hj0
                have hj0 : ¬ 0 < 0 := by omega
                have HJ0 := Aside0.mk hj0
                clear hj0
                have HBO := Aside0.mk (below_step HB1.out HBQ.out)
                have HBZ := Aside0.mk (below_step HB.out HBO.out)
                obtain ⟨adw, eA5, hwc⟩ := widths_cell (pw_own_below HO.out HBO.out) 0 (by have := HLG.out; omega)
                subst eA5
                have hwc2 := hwc
                rw [az] at hwc2
                clear az
                have ilo : (0 : Int) < (lo : Int) := by have := HLG.out; omega
                have hwj := HW.out 0
                have hxs := HX.out
                obtain ⟨n, hn⟩ : ∃ n : Nat, wid l0 0 = x.size + n := ⟨wid l0 0 - x.size, by omega⟩
                have i6 : (wid l0 0 : Int) - (x.size : Int) = (n : Int) := by omega
                have i7 : (x.size : Int) ≤ (wid l0 0 : Int) := by omega
                have i8 : (wid l0 0 : Int) ≤ 4194304 := by omega
                have HI6 := Aside0.mk i6
                have HREP := Aside0.mk (Repeat_blank n (by omega))
                have HN4 := Aside0.mk hn
                have hnn : n ≤ 4194304 := by omega
                have hxx : x.size ≤ 4194304 := by omega
                have HNN := Aside0.mk hnn
                have HXX := Aside0.mk hxx
                clear i6 hn hwj hxs hnn hxx
                go_wp2_with fail
                rw [HI6.out]
                clear i7 i8
                refine (L_Repeat.calls _ _ _ _ HREP.out).mono ?_
                rintro e w5 ⟨rfl, hb5⟩
                have HL3 := Aside0.mk (HL2.out.below hb5)
                have HBR := Aside0.mk (below_then HBQ.out (Nat.le_of_lt HL2.out.lt) hb5)
                clear hb5
                go_wp2_with fail
                refine (HRR.out 0 _ (below_step HB.out (below_step HB1.out HBR.out))).mono ?_
                rintro e w6 ⟨rfl, rfl⟩
                by_cases hRj : R 0 = true
                · have HRJ := Aside0.mk hRj
                  rw [hRj]
                  clear hRj
                  go_wp2_with fail
                  refine (HL3.out.writeString (blanksB n) (by have := HLN.out; have := HROW.out; have := HNN.out; rw [blanksB_size]; simp; omega)).mono ?_
                  rintro e w7 ⟨rfl, hb7, hbl7⟩
                  have HL4 := Aside0.mk hb7
                  have HBS := Aside0.mk (HBR.out.trans hbl7)
                  clear hb7 hbl7
                  go_wp2_with fail
                  refine (HL4.out.writeString x (by have := HLN.out; have := HROW.out; have := HNN.out; have := HXX.out; rw [List.length_append, blanksB_data, List.length_replicate]; simp; omega)).mono ?_
                  rintro e w8 ⟨rfl, hb8, hbl8⟩
                  have HL5 := Aside0.mk hb8
                  have HBT := Aside0.mk (HBS.out.trans hbl8)
                  clear hb8 hbl8
                  go_wp2_with fail
                  go_roundw
                  case rel =>
                    refine ⟨0 + 1, by first | rfl | go_num, hlt2, ⟨?_⟩, HBT⟩
                    have e : lineTo R (wid l0) r (0 + 1) = lineTo R (wid l0) r 0 ++ (blanksB n).data.toList ++ x.data.toList := by
                      rw [HLS.out, piece, if_neg HJ0.out, if_pos HRJ.out, blanksB_data, show wid l0 0 - x.size = n by have := HN4.out; omega]; simp
                    rw [e]
                    exact HL5.out
                  case measure => simp [RowKit.intOf]; omega
                · have hRj' : R 0 = false := by simpa using hRj
                  have HRJ := Aside0.mk hRj
                  rw [hRj']
                  clear hRj hRj'
                  go_wp2_with fail
                  refine (HL3.out.writeString x (by have := HLN.out; have := HROW.out; have := HNN.out; have := HXX.out; simp; omega)).mono ?_
                  rintro e w7 ⟨rfl, hb7, hbl7⟩
                  have HL4 := Aside0.mk hb7
                  have HBS := Aside0.mk (HBR.out.trans hbl7)
                  clear hb7 hbl7
                  go_wp2_with fail
                  refine (HL4.out.writeString (blanksB n) (by have := HLN.out; have := HROW.out; have := HNN.out; have := HXX.out; rw [blanksB_size]; simp; omega)).mono ?_
                  rintro e w8 ⟨rfl, hb8, hbl8⟩
                  have HL5 := Aside0.mk hb8
                  have HBT := Aside0.mk (HBS.out.trans hbl8)
                  clear hb8 hbl8
                  go_wp2_with fail
                  go_roundw
                  case rel =>
                    refine ⟨0 + 1, by first | rfl | go_num, hlt2, ⟨?_⟩, HBT⟩
                    have e : lineTo R (wid l0) r (0 + 1) = lineTo R (wid l0) r 0 ++ x.data.toList ++ (blanksB n).data.toList := by
                      rw [HLS.out, piece, if_neg HJ0.out, if_neg HRJ.out, blanksB_data, show wid l0 0 - x.size = n by have := HN4.out; omega]; simp
                    rw [e]
                    exact HL5.out
                  case measure => simp [RowKit.intOf]; omega
            · have hj' : j = r.length := by omega
              subst hj'
              have hln := lineTo_length R (wid l0) r HW.out HSZ.out r.length (Nat.le_refl _)
              have HLN := Aside0.mk hln
              clear hln
              go_wp2_with fail
              refine HL1.out.string.mono ?_
              rintro e w4 ⟨rfl, hb4⟩
              have HBQ := Aside0.mk (HB2.out.trans hb4)
              have HG2 := Aside0.mk (HG1.out.below HBQ.out)
              clear hb4
              go_wp2_with fail
              refine (Tryz.strings_TrimRight_one ⟨(lineTo R (wid l0) r r.length).toArray⟩ 32 (by decide) _ (by have := HLN.out; have := HROW.out; rw [mk_size]; simp; omega)).mono ?_
              rintro e w5 ⟨rfl, hw5⟩
              obtain rfl : w5 = w4 := hw5
              have htl : (⟨(lineTo R (wid l0) r r.length).toArray⟩ : ByteArray).data.toList = lineTo R (wid l0) r r.length := by simp
              rw [htl]
              clear htl
              have hgl := HG.out (k + 1)
              rw [HGS.out, List.length_append, lineText, List.length_append, List.length_singleton] at hgl
              obtain ⟨T, hT⟩ : ∃ T, Lib.trimRightB (lineTo R (wid l0) r r.length) 32 = T := ⟨_, rfl⟩
              rw [hT] at hgl
              rw [hT]
              have HT := Aside0.mk hT
              have HGL := Aside0.mk hgl
              clear hT hgl
              go_wp2_with fail
              refine (HG2.out.writeString ⟨T.toArray⟩ (by have := HGL.out; rw [mk_size]; simp; omega)).mono ?_
              rintro e w6 ⟨rfl, hb6, hbl6⟩
              have HG3 := Aside0.mk hb6
              have HBR := Aside0.mk ((below_step HB1.out HBQ.out).trans hbl6)
              clear hb6 hbl6
              go_wp2_with fail
              refine (HG3.out.writeByte 10 (by have := HGL.out; simp; omega)).mono ?_
              rintro e w7 ⟨rfl, hb7, hbl7⟩
              have HG4 := Aside0.mk hb7
              have HBS := Aside0.mk (HBR.out.trans hbl7)
              clear hb7 hbl7
              go_wp2_with fail
              go_roundw
              case rel =>
                refine ⟨k + 1, by go_num, hlt, ⟨?_⟩, HBS⟩
                rw [HGS.out, lineText, HT.out, ← List.append_assoc]
                simpa using HG4.out
              case measure => simp [RowKit.intOf]; omega
        · have hk' : k = l0.length := by omega
          subst hk'
          go_wp2_with fail
          refine HG1.out.string.mono ?_
          rintro e w4 ⟨rfl, hb4⟩
          have HBQ := Aside0.mk (below_step HB.out (HB1.out.trans hb4))
          clear hb4
          go_wp2_with fail
          go_ret
          exact ⟨rfl, HBQ.out⟩
end Go.Proofs.YtmimninicegjcaaGreatDoor

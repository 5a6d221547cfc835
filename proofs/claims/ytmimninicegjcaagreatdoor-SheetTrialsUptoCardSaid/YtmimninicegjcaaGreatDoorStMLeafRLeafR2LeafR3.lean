/- Part of the proof of RowTrials: LeafR, LeafR2, LeafR3. -/
import Derived.Deep.QuietTactic
import Derived.BigQuiet
import Derived.Deep.RegionHeld3
import Derived.Outline
import Derived.Test.YtmimninicegjcaaGreatDoorStLeafC
import Derived.Test.YtmimninicegjcaaGreatDoorStQT2
/- daybookref01.Sum: numbers of 192 bits in six words. -/
namespace Go.Proofs.YtmimninicegjcaaGreatDoor
open Go.RowKit Go.Shelf Go.Lib Go.Proofs.YtmimninicegjcaaGreatDoorW.PrintWords Go.Proofs.YtmimninicegjcaaGreatDoorW.PrintLast Go.Proofs.YtmimninicegjcaaGreatDoorW.PrintMore
set_option linter.unusedVariables false
set_option linter.unusedSimpArgs false
/-! ### words of 32 bits -/
def wb (i : Nat) : Nat := 4294967296 ^ i
def dg (X : Nat) (i : Nat) : Nat := X / wb i % 4294967296
def wA (f : Nat → Nat) : Array Value := #[.int .u64 (f 0 : Nat), .int .u64 (f 1 : Nat), .int .u64 (f 2 : Nat), .int .u64 (f 3 : Nat), .int .u64 (f 4 : Nat), .int .u64 (f 5 : Nat)]
def wV (X : Nat) : Value := .agg (wA (dg X))
theorem wA_get (f : Nat → Nat) (i : Nat) (h : i < 6) : (wA f)[i]? = some (.int .u64 (f i : Nat)) := by
  have : i = 0 ∨ i = 1 ∨ i = 2 ∨ i = 3 ∨ i = 4 ∨ i = 5 := by omega
  rcases this with rfl | rfl | rfl | rfl | rfl | rfl <;> rfl
theorem wA_set (f : Nat → Nat) (i : Nat) (h : i < 6) (v : Nat) : (wA f).setIfInBounds i (.int .u64 (v : Nat)) = wA (fun j => if j = i then v else f j) := by
  have : i = 0 ∨ i = 1 ∨ i = 2 ∨ i = 3 ∨ i = 4 ∨ i = 5 := by omega
  rcases this with rfl | rfl | rfl | rfl | rfl | rfl <;> rfl
theorem wb_pos (i : Nat) : 0 < wb i := Nat.pow_pos (by decide)
theorem wb_succ (i : Nat) : wb (i + 1) = wb i * 4294967296 := Nat.pow_succ ..
theorem dg_lt (X i : Nat) : dg X i < 4294967296 := Nat.mod_lt _ (by decide)
theorem mod_succ (X i : Nat) : X % wb (i + 1) = X % wb i + wb i * dg X i := by
  rw [wb_succ, Nat.mod_mul, dg]
/-- What is carried into word i of a sum. -/
def carry (X Y i : Nat) : Nat := (X % wb i + Y % wb i) / wb i
theorem carry_lt (X Y i : Nat) : carry X Y i ≤ 1 := by
  unfold carry
  have h1 := Nat.mod_lt X (wb_pos i)
  have h2 := Nat.mod_lt Y (wb_pos i)
  have : (X % wb i + Y % wb i) / wb i < 2 := by rw [Nat.div_lt_iff_lt_mul (wb_pos i)]; omega
  omega
theorem carry_zero (X Y : Nat) : carry X Y 0 = 0 := by simp [carry, wb, Nat.mod_one]
theorem plus_dg (X Y i : Nat) : (carry X Y i + dg X i + dg Y i) % 4294967296 = dg (X + Y) i := by
  have h1 : X / wb i + Y / wb i + carry X Y i = (X + Y) / wb i := by
    unfold carry
    have hx := Nat.div_add_mod X (wb i)
    have hy := Nat.div_add_mod Y (wb i)
    have : X + Y = (X % wb i + Y % wb i) + wb i * (X / wb i + Y / wb i) := by rw [Nat.mul_add]; omega
    rw [this, Nat.add_mul_div_left _ _ (wb_pos i)]
    omega
  unfold dg
  rw [← h1]
  omega
theorem plus_carry (X Y i : Nat) : (carry X Y i + dg X i + dg Y i) / 4294967296 = carry X Y (i + 1) := by
  have h : (X % wb (i + 1) + Y % wb (i + 1)) = (X % wb i + Y % wb i) + wb i * (dg X i + dg Y i) := by rw [mod_succ, mod_succ, Nat.mul_add]; omega
  have h2 : carry X Y (i + 1) = ((X % wb i + Y % wb i) + wb i * (dg X i + dg Y i)) / (wb i * 4294967296) := by
    unfold carry
    rw [h, wb_succ]
  rw [h2, ← Nat.div_div_eq_div_mul, Nat.add_mul_div_left _ _ (wb_pos i)]
  unfold carry
  congr 1
  omega
def upTo (X k : Nat) : Nat → Nat := fun j => if j < k then dg X j else 0
theorem upTo_step (X k : Nat) : (fun j => if j = k then dg X k else upTo X k j) = upTo X (k + 1) := by
  funext j
  unfold upTo
  by_cases h : j = k
  · subst h; simp
  · rw [if_neg h]
    by_cases h2 : j < k
    · rw [if_pos h2, if_pos (by omega)]
    · rw [if_neg h2, if_neg (by omega)]
theorem upTo_six (X : Nat) : wA (upTo X 6) = wA (dg X) := by simp [wA, upTo]
theorem upTo_blk {W : World} {g X k t : Nat} (h : W.heap[g]? = some (.cells (wA (upTo X k)) t (0, 0))) (hk : k < 6) : (W.setCell ⟨g, k, none⟩ (.int .u64 (dg X k : Nat))).heap[g]? = some (.cells (wA (upTo X (k + 1))) t (0, 0)) := by
  have := blk_set h k (.int .u64 (dg X k : Nat))
  rw [wA_set _ _ hk, upTo_step] at this
  exact this
theorem six_set {W : World} {g t : Nat} {f : Nat → Nat} (h : W.heap[g]? = some (.cells (wA f) t (0, 0))) (v0 v1 v2 v3 v4 v5 : Value) :
    ((((((W.setCell ⟨g, 0, none⟩ v0).setCell ⟨g, 1, none⟩ v1).setCell ⟨g, 2, none⟩ v2).setCell ⟨g, 3, none⟩ v3).setCell ⟨g, 4, none⟩ v4).setCell ⟨g, 5, none⟩ v5).heap[g]? = some (.cells #[v0, v1, v2, v3, v4, v5] t (0, 0)) := by
  have := blk_set (blk_set (blk_set (blk_set (blk_set (blk_set h 0 v0) 1 v1) 2 v2) 3 v3) 4 v4) 5 v5
  simpa [wA] using this
theorem wide_size : (Tryz.prog.info? 156).map (·.size) = some 6 := by kernel_rfl
theorem cellAt {w : World} {g : Nat} {f : Nat → Nat} {t : Nat} (h : w.heap[g]? = some (.cells (wA f) t (0, 0))) (i : Nat) (hi : i < 6) : w.cell? ⟨g, i, none⟩ = some (.int .u64 (f i : Nat)) :=
  (blk_cell h i).trans (wA_get f i hi)
theorem al1 {w : World} {o : Obj} : w.heap.size + 1 = (w.alloc o).heap.size := (Array.size_push ..).symm
theorem al2 {w : World} {o p : Obj} : w.heap.size + 1 + 1 = ((w.alloc o).alloc p).heap.size := by rw [← al1, ← al1]
theorem al3 {w : World} {o p q : Obj} : w.heap.size + 1 + 1 + 1 = (((w.alloc o).alloc p).alloc q).heap.size := by rw [← al1, ← al1, ← al1]
theorem new_at {w : World} {o : Obj} {n : Nat} (h : n = w.heap.size) : (w.alloc o).heap[n]? = some o := by rw [h]; exact heap_alloc_new w o
theorem blk_far {W : World} {g k j : Nat} {o : Obj} {v : Value} (h : W.heap[g]? = some o) (hne : g ≠ k) : (W.setCell ⟨k, j, none⟩ v).heap[g]? = some o := (Below.heap_setCell W ⟨k, j, none⟩ v g hne).trans h
set_option maxRecDepth 100000 in
set_option maxHeartbeats 2000000 in
theorem Plus_calls (X Y : Nat) (w : World) :
    Calls Tryz.prog 111 #[wV X, wV Y] w fun en w' => en = .returned (wV (X + Y)) ∧ Below w.heap.size w w' := by
  unfold wV
  go_enter Tryz.func111, Tryz.ntmps111
  go_wp2_with fail
  go_loopw [6, 7] (fun v6 v7 wr => ∃ k : Nat, v7 = .int .i64 k ∧ k ≤ 6 ∧ v6 = .int .u64 (carry X Y k : Nat) ∧ Aside0 (wr.heap[w.heap.size]? = some (.cells (wA (dg X)) 156 (0, 0))) ∧ Aside0 (wr.heap[w.heap.size + 1]? = some (.cells (wA (dg Y)) 156 (0, 0))) ∧ Aside0 (wr.heap[w.heap.size + 1 + 1 + 1]? = some (.cells (wA (upTo (X + Y) k)) 156 (0, 0))) ∧ Aside0 (wr.heap[w.heap.size + 1 + 1]? = some (.cells (wA (fun _ => 0)) 156 (0, 0))) ∧ Aside0 (Below w.heap.size w wr)) (fun _ v _ => 6 - (RowKit.intOf v).toNat)
  case atStart =>
    refine ⟨0, rfl, by omega, by rw [carry_zero]; rfl, ⟨?_⟩, ⟨?_⟩, ⟨?_⟩, ⟨?_⟩, ⟨?_⟩⟩
    · repeat (first | exact new_at rfl | apply blk_alloc)
    · repeat (first | exact new_at al1 | apply blk_alloc)
    · exact new_at al3
    · exact blk_alloc (new_at al2) _
    · repeat (first | exact Below.refl _ _ | apply below_alloc)
  case round =>
    obtain ⟨k, rfl, hk, rfl, HX, HY, HZ, HR, HB⟩ := hrel
    by_cases hlt : k < 6
    · have hx := cellAt HX.out k hlt
      have hy := cellAt HY.out k hlt
      have fz := blk_frozen HZ.out k
      have hz := cellAt HZ.out k hlt
      have i1 : (k : Int) < 6 := by omega
      have i2 : (0 : Int) ≤ (k : Int) := by omega
      have HPD := Aside0.mk (plus_dg X Y k)
      have HPC := Aside0.mk (plus_carry X Y k)
      have b1 := carry_lt X Y k
      have b2 := dg_lt X k
      have b3 := dg_lt Y k
      generalize carry X Y k = c at *
      generalize dg X k = x at *
      generalize dg Y k = y at *
      obtain ⟨s, hs⟩ : ∃ s, c + x + y = s := ⟨_, rfl⟩
      rw [hs] at HPD HPC
      have e1 : IntKind.u64.wrap ((c : Int) + (x : Int)) = (c : Int) + (x : Int) := by rw [IntKind.wrap_u64]; omega
      have e2 : IntKind.u64.wrap ((c : Int) + (x : Int) + (y : Int)) = (s : Int) := by rw [IntKind.wrap_u64]; omega
      have e3 : (s : Int).tmod 4294967296 = ((dg (X + Y) k : Nat) : Int) := by rw [← HPD.out, Int.tmod_eq_emod_of_nonneg (by omega)]; omega
      have e4 : (s : Int).tdiv 4294967296 = ((carry X Y (k + 1) : Nat) : Int) := by rw [← HPC.out, Int.tdiv_eq_ediv_of_nonneg (by omega)]; omega
      have e5 : (s : Int) % 4294967296 = ((dg (X + Y) k : Nat) : Int) := by rw [← HPD.out]; omega
      have e6 : (s : Int) / 4294967296 = ((carry X Y (k + 1) : Nat) : Int) := by rw [← HPC.out]; omega
      have HSET := Aside0.mk (blk_set HZ.out k (.int .u64 (dg (X + Y) k : Nat)))
      have E3 := Aside0.mk e3
      have E4 := Aside0.mk e4
      have E5 := Aside0.mk e5
      have E6 := Aside0.mk e6
      clear b1 b2 b3 e3 e4 e5 e6 hs
      generalize hg0 : w.heap.size = g0 at *
      have HG0 := Aside0.mk hg0
      clear hg0
      go_wp2_with fail
      go_quiet (fail)
      clear e1 e2
      have e3 := E3.out
      have e4 := E4.out
      have e5 := E5.out
      have e6 := E6.out
      have e7 : IntKind.u64.wrap ((carry X Y (k + 1) : Nat) : Int) = ((carry X Y (k + 1) : Nat) : Int) := by rw [IntKind.wrap_u64]; have := carry_lt X Y (k + 1); omega
      go_wp2_with fail
      go_roundw
      case measure => simp [RowKit.intOf]; omega
      case rel =>
        exact ⟨k + 1, by go_num, hlt, rfl, ⟨blk_far (blk_drewN HX.out nq) (by omega)⟩, ⟨blk_far (blk_drewN HY.out nq) (by omega)⟩, ⟨upTo_blk (blk_drewN HZ.out nq) hlt⟩, ⟨blk_far (blk_drewN HR.out nq) (by omega)⟩,
          ⟨(pw_below_drewN HB.out nq).setCell (by show _ ≤ g0 + 1 + 1 + 1; omega) _⟩⟩
    · have hk6 : k = 6 := by omega
      subst hk6
      rw [upTo_six] at HZ
      have z0 := cellAt HZ.out 0 (by decide)
      have z1 := cellAt HZ.out 1 (by decide)
      have z2 := cellAt HZ.out 2 (by decide)
      have z3 := cellAt HZ.out 3 (by decide)
      have z4 := cellAt HZ.out 4 (by decide)
      have z5 := cellAt HZ.out 5 (by decide)
      have r0 := cellAt HR.out 0 (by decide)
      have r1 := cellAt HR.out 1 (by decide)
      have r2 := cellAt HR.out 2 (by decide)
      have r3 := cellAt HR.out 3 (by decide)
      have r4 := cellAt HR.out 4 (by decide)
      have r5 := cellAt HR.out 5 (by decide)
      have f0 := blk_frozen HR.out 0
      have f1 := blk_frozen HR.out 1
      have f2 := blk_frozen HR.out 2
      have f3 := blk_frozen HR.out 3
      have f4 := blk_frozen HR.out 4
      have f5 := blk_frozen HR.out 5
      generalize hg0 : w.heap.size = g0 at *
      have HG0 := Aside0.mk hg0
      clear hg0
      go_wp2_with fail
      have hle : g0 ≤ g0 + 1 + 1 := by omega
      refine bodyPost_ret (results_cell_row (P := Tryz.prog) rfl _ _ (g0 + 1 + 1) 156 (wA (dg (X + Y))) (0, 0) _ ?hp (six_set HR.out _ _ _ _ _ _) Tryz.underlying156 rfl wide_size) rfl ⟨rfl, ?hb⟩
      case hp => rfl
      case hb => rw [HG0.out]; exact (((((HB.out.setCell hle _).setCell hle _).setCell hle _).setCell hle _).setCell hle _).setCell hle _
def bw (X Y i : Nat) : Nat := if X % wb i < Y % wb i then 1 else 0
theorem bw_le (X Y i : Nat) : bw X Y i ≤ 1 := by unfold bw; split <;> omega
theorem bw_zero (X Y : Nat) : bw X Y 0 = 0 := by simp [bw, wb, Nat.mod_one]
theorem minus_div (X Y i : Nat) (h : Y ≤ X) : (X - Y) / wb i + Y / wb i + bw X Y i = X / wb i := by
  have hx := Nat.div_add_mod X (wb i)
  have hy := Nat.div_add_mod Y (wb i)
  have lx := Nat.mod_lt X (wb_pos i)
  have ly := Nat.mod_lt Y (wb_pos i)
  have hle : Y / wb i ≤ X / wb i := Nat.div_le_div_right h
  have hm : wb i * (X / wb i - Y / wb i) = wb i * (X / wb i) - wb i * (Y / wb i) := Nat.mul_sub ..
  have hmm : wb i * (Y / wb i) ≤ wb i * (X / wb i) := Nat.mul_le_mul_left _ hle
  unfold bw
  by_cases hb : X % wb i < Y % wb i
  · rw [if_pos hb]
    have hlt : Y / wb i < X / wb i := by
      rcases Nat.lt_or_ge (Y / wb i) (X / wb i) with h1 | h1
      · exact h1
      · exfalso
        have : X / wb i = Y / wb i := by omega
        rw [this] at hx
        omega
    obtain ⟨q, hq⟩ : ∃ q, X / wb i = Y / wb i + q + 1 := ⟨X / wb i - Y / wb i - 1, by omega⟩
    have e : X - Y = (wb i + X % wb i - Y % wb i) + wb i * q := by
      have : wb i * (X / wb i) = wb i * (Y / wb i) + wb i * q + wb i := by rw [hq, Nat.mul_add, Nat.mul_add, Nat.mul_one]
      omega
    rw [e, Nat.add_mul_div_left _ _ (wb_pos i), Nat.div_eq_of_lt (by omega)]
    omega
  · rw [if_neg hb]
    obtain ⟨q, hq⟩ : ∃ q, X / wb i = Y / wb i + q := ⟨X / wb i - Y / wb i, by omega⟩
    have e : X - Y = (X % wb i - Y % wb i) + wb i * q := by
      have : wb i * (X / wb i) = wb i * (Y / wb i) + wb i * q := by rw [hq, Nat.mul_add]
      omega
    rw [e, Nat.add_mul_div_left _ _ (wb_pos i), Nat.div_eq_of_lt (by omega)]
    omega
theorem minus_dg (X Y i : Nat) (h : Y ≤ X) : (dg X i + 4294967296 - dg Y i - bw X Y i) % 4294967296 = dg (X - Y) i := by
  have h1 := minus_div X Y i h
  have h2 := bw_le X Y i
  unfold dg
  omega
theorem minus_bw (X Y i : Nat) : 1 - (dg X i + 4294967296 - dg Y i - bw X Y i) / 4294967296 = bw X Y (i + 1) := by
  have hx := mod_succ X i
  have hy := mod_succ Y i
  have lx := Nat.mod_lt X (wb_pos i)
  have ly := Nat.mod_lt Y (wb_pos i)
  have dx := dg_lt X i
  have dy := dg_lt Y i
  unfold bw
  rw [hx, hy]
  generalize dg X i = x at *
  generalize dg Y i = y at *
  generalize X % wb i = rx at *
  generalize Y % wb i = ry at *
  rcases Nat.lt_trichotomy x y with hlt | heq | hgt
  · have : wb i * x + wb i ≤ wb i * y := by rw [← Nat.mul_succ]; exact Nat.mul_le_mul_left _ hlt
    rw [if_pos (show rx + wb i * x < ry + wb i * y by omega)]
    split <;> omega
  · subst heq
    by_cases hr : rx < ry
    · rw [if_pos hr, if_pos (by omega)]; omega
    · rw [if_neg hr, if_neg (by omega)]; omega
  · have : wb i * y + wb i ≤ wb i * x := by rw [← Nat.mul_succ]; exact Nat.mul_le_mul_left _ hgt
    rw [if_neg (show ¬ rx + wb i * x < ry + wb i * y by omega)]
    split <;> omega
set_option maxRecDepth 100000 in
set_option maxHeartbeats 2000000 in
theorem Minus_calls (X Y : Nat) (hXY : Y ≤ X) (w : World) :
    Calls Tryz.prog 114 #[wV X, wV Y] w fun en w' => en = .returned (wV (X - Y)) ∧ Below w.heap.size w w' := by
  unfold wV
  go_enter Tryz.func114, Tryz.ntmps114
  go_wp2_with fail
  go_loopw [6, 7, 8] (fun v6 v7 _ wr => ∃ k : Nat, v7 = .int .i64 k ∧ k ≤ 6 ∧ v6 = .int .u64 (bw X Y k : Nat) ∧ Aside0 (wr.heap[w.heap.size]? = some (.cells (wA (dg X)) 156 (0, 0))) ∧ Aside0 (wr.heap[w.heap.size + 1]? = some (.cells (wA (dg Y)) 156 (0, 0))) ∧ Aside0 (wr.heap[w.heap.size + 1 + 1 + 1]? = some (.cells (wA (upTo (X - Y) k)) 156 (0, 0))) ∧ Aside0 (wr.heap[w.heap.size + 1 + 1]? = some (.cells (wA (fun _ => 0)) 156 (0, 0))) ∧ Aside0 (Below w.heap.size w wr)) (fun _ v _ _ => 6 - (RowKit.intOf v).toNat)
  case atStart =>
    refine ⟨0, rfl, by omega, by rw [bw_zero]; rfl, ⟨?_⟩, ⟨?_⟩, ⟨?_⟩, ⟨?_⟩, ⟨?_⟩⟩
    · repeat (first | exact new_at rfl | apply blk_alloc)
    · repeat (first | exact new_at al1 | apply blk_alloc)
    · exact new_at al3
    · exact blk_alloc (new_at al2) _
    · repeat (first | exact Below.refl _ _ | apply below_alloc)
  case round =>
    obtain ⟨k, rfl, hk, rfl, HX, HY, HZ, HR, HB⟩ := hrel
    by_cases hlt : k < 6
    · have hx := cellAt HX.out k hlt
      have hy := cellAt HY.out k hlt
      have fz := blk_frozen HZ.out k
      have hz := cellAt HZ.out k hlt
      have i1 : (k : Int) < 6 := by omega
      have i2 : (0 : Int) ≤ (k : Int) := by omega
      have HPD := Aside0.mk (minus_dg X Y k hXY)
      have HPC := Aside0.mk (minus_bw X Y k)
      have b1 := bw_le X Y k
      have b2 := dg_lt X k
      have b3 := dg_lt Y k
      generalize bw X Y k = c at *
      generalize dg X k = x at *
      generalize dg Y k = y at *
      obtain ⟨s, hs⟩ : ∃ s, x + 4294967296 - y - c = s := ⟨_, rfl⟩
      rw [hs] at HPD HPC
      have e0 : IntKind.u64.wrap ((x : Int) + 4294967296) = (x : Int) + 4294967296 := by rw [IntKind.wrap_u64]; omega
      have e1 : IntKind.u64.wrap ((x : Int) + 4294967296 - (y : Int)) = (x : Int) + 4294967296 - (y : Int) := by rw [IntKind.wrap_u64]; omega
      have e2 : IntKind.u64.wrap ((x : Int) + 4294967296 - (y : Int) - (c : Int)) = (s : Int) := by rw [IntKind.wrap_u64]; omega
      have e3 : (s : Int).tmod 4294967296 = ((dg (X - Y) k : Nat) : Int) := by rw [← HPD.out, Int.tmod_eq_emod_of_nonneg (by omega)]; omega
      have e4 : 1 - (s : Int).tdiv 4294967296 = ((bw X Y (k + 1) : Nat) : Int) := by rw [← HPC.out, Int.tdiv_eq_ediv_of_nonneg (by omega)]; omega
      have e5 : (s : Int) % 4294967296 = ((dg (X - Y) k : Nat) : Int) := by rw [← HPD.out]; omega
      have e6 : 1 - (s : Int) / 4294967296 = ((bw X Y (k + 1) : Nat) : Int) := by rw [← HPC.out]; omega
      have HSET := Aside0.mk (blk_set HZ.out k (.int .u64 (dg (X - Y) k : Nat)))
      have E3 := Aside0.mk e3
      have E4 := Aside0.mk e4
      have E5 := Aside0.mk e5
      have E6 := Aside0.mk e6
      clear b1 b2 b3 e3 e4 e5 e6 hs
      generalize hg0 : w.heap.size = g0 at *
      have HG0 := Aside0.mk hg0
      clear hg0
      go_wp2_with fail
      go_quiet (fail)
      clear e0 e1 e2
      have e3 := E3.out
      have e4 := E4.out
      have e5 := E5.out
      have e6 := E6.out
      have e7 : IntKind.u64.wrap ((bw X Y (k + 1) : Nat) : Int) = ((bw X Y (k + 1) : Nat) : Int) := by rw [IntKind.wrap_u64]; have := bw_le X Y (k + 1); omega
      go_wp2_with fail
      go_roundw
      case measure => simp [RowKit.intOf]; omega
      case rel =>
        exact ⟨k + 1, by go_num, hlt, rfl, ⟨blk_far (blk_drewN HX.out nq) (by omega)⟩, ⟨blk_far (blk_drewN HY.out nq) (by omega)⟩, ⟨upTo_blk (blk_drewN HZ.out nq) hlt⟩, ⟨blk_far (blk_drewN HR.out nq) (by omega)⟩,
          ⟨(pw_below_drewN HB.out nq).setCell (by show _ ≤ g0 + 1 + 1 + 1; omega) _⟩⟩
    · have hk6 : k = 6 := by omega
      subst hk6
      rw [upTo_six] at HZ
      have z0 := cellAt HZ.out 0 (by decide)
      have z1 := cellAt HZ.out 1 (by decide)
      have z2 := cellAt HZ.out 2 (by decide)
      have z3 := cellAt HZ.out 3 (by decide)
      have z4 := cellAt HZ.out 4 (by decide)
      have z5 := cellAt HZ.out 5 (by decide)
      have r0 := cellAt HR.out 0 (by decide)
      have r1 := cellAt HR.out 1 (by decide)
      have r2 := cellAt HR.out 2 (by decide)
      have r3 := cellAt HR.out 3 (by decide)
      have r4 := cellAt HR.out 4 (by decide)
      have r5 := cellAt HR.out 5 (by decide)
      have f0 := blk_frozen HR.out 0
      have f1 := blk_frozen HR.out 1
      have f2 := blk_frozen HR.out 2
      have f3 := blk_frozen HR.out 3
      have f4 := blk_frozen HR.out 4
      have f5 := blk_frozen HR.out 5
      generalize hg0 : w.heap.size = g0 at *
      have HG0 := Aside0.mk hg0
      clear hg0
      go_wp2_with fail
      have hle : g0 ≤ g0 + 1 + 1 := by omega
      refine bodyPost_ret (results_cell_row (P := Tryz.prog) rfl _ _ (g0 + 1 + 1) 156 (wA (dg (X - Y))) (0, 0) _ ?hp (six_set HR.out _ _ _ _ _ _) Tryz.underlying156 rfl wide_size) rfl ⟨rfl, ?hb⟩
      case hp => rfl
      case hb => rw [HG0.out]; exact (((((HB.out.setCell hle _).setCell hle _).setCell hle _).setCell hle _).setCell hle _).setCell hle _
end Go.Proofs.YtmimninicegjcaaGreatDoor
/- daybookref01: Of, Below, amount, Is. -/
namespace Go.Proofs.YtmimninicegjcaaGreatDoor
open Go.RowKit Go.Shelf Go.Lib Go.Proofs.YtmimninicegjcaaGreatDoorW.PrintWords Go.Proofs.YtmimninicegjcaaGreatDoorW.PrintLast Go.Proofs.YtmimninicegjcaaGreatDoorW.PrintMore
set_option linter.unusedVariables false
set_option linter.unusedSimpArgs false
theorem Is_calls (a : Int) (w : World) :
    Calls Tryz.prog 110 #[.int .i64 a] w fun en w' => en = .returned (.bool (decide (a ≠ -9223372036854775808))) ∧ w = w' := by
  by_cases h : a = -9223372036854775808
  · subst h
    go_enter Tryz.func110, Tryz.ntmps110
    go_wp2
    go_ret
    exact ⟨rfl, rfl⟩
  · have h' : (a == -9223372036854775808) = false := beq_eq_false_iff_ne.2 h
    go_enter Tryz.func110, Tryz.ntmps110
    go_wp2
    go_ret
    exact ⟨by simp [h], rfl⟩
/-- A number of two words. -/
def two (x y : Nat) : Nat → Nat := fun j => if j = 0 then x else if j = 1 then y else 0
theorem of_two (X : Nat) (h : X < 18446744073709551616) : wA (two (X % 4294967296) (X / 4294967296)) = wA (dg X) := by
  have h0 : dg X 0 = X % 4294967296 := by simp [dg, wb]
  have h1 : dg X 1 = X / 4294967296 := by unfold dg wb; omega
  have h2 : dg X 2 = 0 := by unfold dg wb; omega
  have h3 : dg X 3 = 0 := by unfold dg wb; omega
  have h4 : dg X 4 = 0 := by unfold dg wb; omega
  have h5 : dg X 5 = 0 := by unfold dg wb; omega
  simp [wA, two, h0, h1, h2, h3, h4, h5]
set_option maxRecDepth 100000 in
set_option maxHeartbeats 2000000 in
theorem Of_calls (a : Int) (h0 : -9223372036854775808 ≤ a) (h1 : a ≤ 9223372036854775807) (w : World) :
    Calls Tryz.prog 112 #[.int .i64 a] w fun en w' => en = .returned (wV a.natAbs) ∧ Below w.heap.size w w' := by
  unfold wV
  obtain ⟨X, hX⟩ : ∃ X, a.natAbs = X := ⟨_, rfl⟩
  rw [hX]
  have HW := Aside0.mk (of_two X (by omega))
  have O1 := Aside0.mk (show (X : Int) % 4294967296 = ((X % 4294967296 : Nat) : Int) by omega)
  have O2 := Aside0.mk (show IntKind.u64.wrap ((X : Int) / 4294967296) = ((X / 4294967296 : Nat) : Int) by rw [IntKind.wrap_u64]; omega)
  have e3 : (X : Int).tmod 4294967296 = ((X % 4294967296 : Nat) : Int) := by rw [Int.tmod_eq_emod_of_nonneg (by omega)]; omega
  have e4 : (X : Int).tdiv 4294967296 = ((X / 4294967296 : Nat) : Int) := by rw [Int.tdiv_eq_ediv_of_nonneg (by omega)]; omega
  by_cases hn : a < 0
  · have hn' : decide (a < 0) = true := decide_eq_true hn
    have e1 : IntKind.u64.wrap a = a + 18446744073709551616 := by rw [IntKind.wrap_u64]; omega
    have e2 : IntKind.u64.wrap (-(a + 18446744073709551616)) = (X : Int) := by rw [IntKind.wrap_u64]; omega
    clear hn h0 h1 hX
    go_enter Tryz.func112, Tryz.ntmps112
    go_wp2_with fail
    refine bodyPost_ret (results_cell_row (P := Tryz.prog) rfl _ _ w.heap.size 156 #[.int .u64 ((X : Int) % 4294967296), .int .u64 (IntKind.u64.wrap ((X : Int) / 4294967296)), .int .u64 0, .int .u64 0, .int .u64 0, .int .u64 0] (0, 0) _ ?hp (blk_alloc (heap_alloc_new _ _) _) Tryz.underlying156 rfl wide_size) rfl ⟨?he, below_alloc (below_alloc (Below.refl _ _) _) _⟩
    case hp => rfl
    case he => rw [← HW.out, O1.out, O2.out]; rfl
  · have hn' : decide (a < 0) = false := decide_eq_false hn
    obtain rfl : a = (X : Int) := by omega
    have e1 : IntKind.u64.wrap (X : Int) = (X : Int) := by rw [IntKind.wrap_u64]; omega
    clear hn h0 h1 hX
    go_enter Tryz.func112, Tryz.ntmps112
    go_wp2_with fail
    refine bodyPost_ret (results_cell_row (P := Tryz.prog) rfl _ _ w.heap.size 156 #[.int .u64 ((X : Int) % 4294967296), .int .u64 (IntKind.u64.wrap ((X : Int) / 4294967296)), .int .u64 0, .int .u64 0, .int .u64 0, .int .u64 0] (0, 0) _ ?hp (blk_alloc (heap_alloc_new _ _) _) Tryz.underlying156 rfl wide_size) rfl ⟨?he, below_alloc (below_alloc (Below.refl _ _) _) _⟩
    case hp => rfl
    case he => rw [← HW.out, O1.out, O2.out]; rfl
theorem dg_zero_of_lt {X i : Nat} (h : X < wb i) : dg X i = 0 := by unfold dg; rw [Nat.div_eq_of_lt h]
theorem div_dg (X m : Nat) : X / wb m = X / wb (m + 1) * 4294967296 + dg X m := by
  unfold dg
  rw [wb_succ, ← Nat.div_div_eq_div_mul]
  omega
theorem lt_of_dg {X Y m : Nat} (h : X / wb (m + 1) = Y / wb (m + 1)) (hne : dg X m ≠ dg Y m) : decide (dg X m < dg Y m) = decide (X < Y) := by
  have h1 := div_dg X m
  have h2 := div_dg Y m
  rw [h] at h1
  by_cases hlt : dg X m < dg Y m
  · rw [decide_eq_true hlt, decide_eq_true]
    rcases Nat.lt_or_ge X Y with h3 | h3
    · exact h3
    · have := Nat.div_le_div_right (c := wb m) h3
      omega
  · rw [decide_eq_false hlt, decide_eq_false]
    intro h3
    have := Nat.div_le_div_right (c := wb m) (Nat.le_of_lt h3)
    omega
set_option maxRecDepth 100000 in
set_option maxHeartbeats 2000000 in
theorem Below_calls (X Y : Nat) (hX : X < wb 6) (hY : Y < wb 6) (w : World) :
    Calls Tryz.prog 113 #[wV X, wV Y] w fun en w' => en = .returned (.bool (decide (X < Y))) ∧ Below w.heap.size w w' := by
  unfold wV
  go_enter Tryz.func113, Tryz.ntmps113
  go_wp2_with fail
  go_loopw [5] (fun v wr => ∃ m : Nat, v = .int .i64 ((m : Int) - 1) ∧ m ≤ 6 ∧ X / wb m = Y / wb m ∧ Aside0 (wr.heap[w.heap.size]? = some (.cells (wA (dg X)) 156 (0, 0))) ∧ Aside0 (wr.heap[w.heap.size + 1]? = some (.cells (wA (dg Y)) 156 (0, 0))) ∧ Aside0 (Below w.heap.size w wr)) (fun v _ => (RowKit.intOf v + 1).toNat)
  case atStart =>
    refine ⟨6, rfl, by omega, by rw [Nat.div_eq_of_lt hX, Nat.div_eq_of_lt hY], ⟨?_⟩, ⟨?_⟩, ⟨?_⟩⟩
    · exact blk_alloc (heap_alloc_new _ _) _
    · exact new_at al1
    · repeat (first | exact Below.refl _ _ | apply below_alloc)
  case round =>
    obtain ⟨m, rfl, hm, hE, HX, HY, HB⟩ := hrel
    by_cases hlt : 0 < m
    · obtain ⟨k, rfl⟩ : ∃ k, m = k + 1 := ⟨m - 1, by omega⟩
      rw [show ((k + 1 : Nat) : Int) - 1 = (k : Int) by omega]
      have hx := cellAt HX.out k (by omega)
      have hy := cellAt HY.out k (by omega)
      have i1 : (k : Int) < 6 := by omega
      have i2 : (0 : Int) ≤ (k : Int) := by omega
      have hd := div_dg X k
      have hd2 := div_dg Y k
      have HL := Aside0.mk (fun hne => lt_of_dg (m := k) hE hne)
      rw [hE] at hd
      have HD := Aside0.mk hd
      have HD2 := Aside0.mk hd2
      have HM := Aside0.mk hm
      clear hd hd2 hE hm hlt
      generalize hg0 : w.heap.size = g0 at *
      have HG0 := Aside0.mk hg0
      clear hg0
      by_cases he : dg X k = dg Y k
      · have he' : (((dg X k : Nat) : Int) != ((dg Y k : Nat) : Int)) = false := by simp [he]
        go_wp2_with fail
        go_quiet (fail)
        go_wp2_with fail
        go_roundw
        case measure => (try simp [RowKit.intOf]); (try omega)
        case rel => exact ⟨k, by go_num, by have := HM.out; omega, by rw [HD.out, HD2.out, he], HX, HY, ⟨pw_below_drewN HB.out _⟩⟩
      · have he' : (((dg X k : Nat) : Int) != ((dg Y k : Nat) : Int)) = true := bne_iff_ne.2 (fun h => he (by omega))
        go_wp2_with fail
        go_quiet (fail)
        have HNE := Aside0.mk he
        clear he
        go_wp2_with fail
        go_quiet (fail)
        go_wp2_with fail
        go_ret
        exact ⟨by rw [← HL.out HNE.out]; simp, by rw [HG0.out]; exact pw_below_drewN (pw_below_drewN HB.out _) _⟩
    · have hm0 : m = 0 := by omega
      subst hm0
      have hXY : X = Y := by simpa [wb] using hE
      subst hXY
      rw [show ((0 : Nat) : Int) - 1 = -1 from rfl]
      go_wp2_with fail
      go_ret
      exact ⟨by simp, HB.out⟩
end Go.Proofs.YtmimninicegjcaaGreatDoor
/- daybookref01: amount, Sum. -/
namespace Go.Proofs.YtmimninicegjcaaGreatDoor
open Go.RowKit Go.Shelf Go.Lib Go.Proofs.YtmimninicegjcaaGreatDoorW.PrintWords Go.Proofs.YtmimninicegjcaaGreatDoorW.PrintLast Go.Proofs.YtmimninicegjcaaGreatDoorW.PrintMore
set_option linter.unusedVariables false
set_option linter.unusedSimpArgs false
set_option maxRecDepth 100000 in
set_option maxHeartbeats 2000000 in
theorem amount_fit (X : Nat) (hX : X < 9223372036854775808) (m : Bool) (w : World) :
    Calls Tryz.prog 115 #[wV X, .bool m] w fun en w' => en = .returned (.tuple #[.int .i64 (bif m then -(X : Int) else X), .bool true]) ∧ Below w.heap.size w w' := by
  unfold wV
  have h1 : dg X 1 < 2147483648 := by unfold dg wb; omega
  have h2 : dg X 2 = 0 := by unfold dg wb; omega
  have h3 : dg X 3 = 0 := by unfold dg wb; omega
  have h4 : dg X 4 = 0 := by unfold dg wb; omega
  have h5 : dg X 5 = 0 := by unfold dg wb; omega
  have h01 : dg X 1 * 4294967296 + dg X 0 = X := by unfold dg wb; omega
  have e : wA (dg X) = #[.int .u64 (dg X 0 : Nat), .int .u64 (dg X 1 : Nat), .int .u64 0, .int .u64 0, .int .u64 0, .int .u64 0] := by simp [wA, h2, h3, h4, h5]
  rw [e]
  clear e h2 h3 h4 h5
  have d1 : decide ((2147483648 : Int) ≤ ((dg X 1 : Nat) : Int)) = false := decide_eq_false (by omega)
  have d0 := dg_lt X 0
  generalize dg X 0 = x0 at *
  generalize dg X 1 = x1 at *
  have s1 : IntKind.u64.wrap ((x1 : Int) * 4294967296) = (x1 : Int) * 4294967296 := by rw [IntKind.wrap_u64]; omega
  have s2 : IntKind.u64.wrap ((x1 : Int) * 4294967296 + (x0 : Int)) = (X : Int) := by rw [IntKind.wrap_u64]; omega
  have s3 : IntKind.i64.wrap (X : Int) = (X : Int) := by rw [IntKind.wrap_i64]; omega
  have s4 : IntKind.i64.wrap (-(X : Int)) = -(X : Int) := by rw [IntKind.wrap_i64]; omega
  have HB := Aside0.mk (below_alloc (Below.refl w.heap.size w) (.cells #[.int .u64 (x0 : Nat), .int .u64 (x1 : Nat), .int .u64 0, .int .u64 0, .int .u64 0, .int .u64 0] 156 (0, 0)))
  clear h1 h01 d0 hX
  cases m
  · go_enter Tryz.func115, Tryz.ntmps115
    go_wp2_with fail
    go_ret2
    exact ⟨rfl, HB.out⟩
  · go_enter Tryz.func115, Tryz.ntmps115
    go_wp2_with fail
    go_ret2
    exact ⟨rfl, HB.out⟩
theorem over_digits (X : Nat) (hX : 9223372036854775808 ≤ X) (h6 : X < wb 6) : 2147483648 ≤ dg X 1 ∨ dg X 2 ≠ 0 ∨ dg X 3 ≠ 0 ∨ dg X 4 ≠ 0 ∨ dg X 5 ≠ 0 := by
  have d5 := div_dg X 5
  have d4 := div_dg X 4
  have d3 := div_dg X 3
  have d2 := div_dg X 2
  have d1 := div_dg X 1
  have d0 := div_dg X 0
  have z6 : X / wb 6 = 0 := Nat.div_eq_of_lt h6
  have z0 : X / wb 0 = X := by simp [wb]
  have l0 := dg_lt X 0
  simp only [Nat.reduceAdd] at d5 d4 d3 d2 d1 d0
  omega
set_option maxRecDepth 100000 in
set_option maxHeartbeats 2000000 in
theorem amount_over (X : Nat) (hX : 9223372036854775808 ≤ X) (h6 : X < wb 6) (m : Bool) (w : World) :
    Calls Tryz.prog 115 #[wV X, .bool m] w fun en w' => en = .returned (.tuple #[.int .i64 0, .bool false]) ∧ Below w.heap.size w w' := by
  unfold wV
  have HB := Aside0.mk (below_alloc (Below.refl w.heap.size w) (.cells (wA (dg X)) 156 (0, 0)))
  have ho := over_digits X hX h6
  clear hX h6
  unfold wA at HB ⊢
  generalize dg X 0 = x0 at *
  generalize dg X 1 = x1 at *
  generalize dg X 2 = x2 at *
  generalize dg X 3 = x3 at *
  generalize dg X 4 = x4 at *
  generalize dg X 5 = x5 at *
  by_cases c1 : 2147483648 ≤ x1
  · have d1 : decide ((2147483648 : Int) ≤ (x1 : Int)) = true := decide_eq_true (by omega)
    clear c1 ho
    (go_enter Tryz.func115, Tryz.ntmps115; go_wp2_with fail; go_ret2; exact ⟨rfl, HB.out⟩)
  · have d1 : decide ((2147483648 : Int) ≤ (x1 : Int)) = false := decide_eq_false (by omega)
    by_cases c2 : x2 = 0
    · subst c2
      by_cases c3 : x3 = 0
      · subst c3
        by_cases c4 : x4 = 0
        · subst c4
          have c5 : x5 ≠ 0 := by omega
          have d5 : ((x5 : Int) != 0) = true := bne_iff_ne.2 (by omega)
          clear c1 c5 ho
          (go_enter Tryz.func115, Tryz.ntmps115; go_wp2_with fail; go_ret2; exact ⟨rfl, HB.out⟩)
        · have d4 : ((x4 : Int) != 0) = true := bne_iff_ne.2 (by omega)
          clear c1 c4 ho
          (go_enter Tryz.func115, Tryz.ntmps115; go_wp2_with fail; go_ret2; exact ⟨rfl, HB.out⟩)
      · have d3 : ((x3 : Int) != 0) = true := bne_iff_ne.2 (by omega)
        clear c1 c3 ho
        (go_enter Tryz.func115, Tryz.ntmps115; go_wp2_with fail; go_ret2; exact ⟨rfl, HB.out⟩)
    · have d2 : ((x2 : Int) != 0) = true := bne_iff_ne.2 (by omega)
      clear c1 c2 ho
      (go_enter Tryz.func115, Tryz.ntmps115; go_wp2_with fail; go_ret2; exact ⟨rfl, HB.out⟩)
end Go.Proofs.YtmimninicegjcaaGreatDoor

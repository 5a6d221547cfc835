/- Part of the proof of RowTables: LooseA, LooseB. -/
import Derived.IntWalk
import Derived.Test.YtmimninicegjcaaGreatDoorTbQS3
import Derived.Test.YtmimninicegjcaaGreatDoorTbTableB
/- SheetTables: a table's pieces: rows in blocks of their own, and lists of headers over them. -/
namespace Go.Proofs.YtmimninicegjcaaGreatDoor
open Go.RowKit Go.Shelf Go.Lib Go.Proofs.YtmimninicegjcaaGreatDoorW.PrintWords Go.Proofs.YtmimninicegjcaaGreatDoorW.PrintLast Go.Proofs.YtmimninicegjcaaGreatDoorW.PrintMore
set_option linter.unusedVariables false
set_option linter.unusedSimpArgs false
theorem mkL (j : Nat) (g : Nat) : (⟨g, 0, none⟩ : Addr).add j = ⟨g, j, none⟩ := by unfold Addr.add; split <;> simp_all
abbrev Hd := Option Addr × Nat × Nat
def encH (p : Hd) : Value := .slice p.1 p.2.1 p.2.2
def kH : Kd Hd := Kd.scalar encH (fun _ => rfl)
structure Pc where
  g : Nat
  cap : Nat
  row : List Cel
def Pc.full (q : Pc) : Hd := (some ⟨q.g, 0, none⟩, q.row.length, q.cap)
def Pc.part (q : Pc) (n : Nat) : Hd := (some ⟨q.g, 0, none⟩, n, q.cap)
structure PcOk (W : World) (base : Nat) (q : Pc) : Prop where
  ge : base ≤ q.g
  ty : ∃ cur, W.heap[q.g]? = some (.cells cur 43 (0, 0))
  cap : q.row.length ≤ q.cap
  reads : Kd.C QS.k43 W (some ⟨q.g, 0, none⟩) q.row.length q.row
structure Pcs (W : World) (base : Nat) (qs : List Pc) : Prop where
  ok : ∀ q ∈ qs, PcOk W base q
  inc : qs.Pairwise fun a b => a.g < b.g
variable {W w1 : World} {base : Nat} {q : Pc} {qs : List Pc}
theorem PcOk.lt (h : PcOk W base q) : q.g < W.heap.size := by obtain ⟨cur, h1⟩ := h.ty; exact blk_lt h1
theorem PcOk.block (h : PcOk W base q) (hb : w1.heap[q.g]? = W.heap[q.g]?) : PcOk w1 base q := by
  obtain ⟨cur, h1⟩ := h.ty
  have h2 := hb.trans h1
  refine ⟨h.ge, ⟨cur, h2⟩, h.cap, ?_⟩
  obtain ⟨r1, r2, r3⟩ := h.reads
  refine ⟨r1, r2, fun hp => ?_⟩
  obtain ⟨ad, e, hc⟩ := r3 hp
  refine ⟨ad, e, fun i p hi => ?_⟩
  obtain ⟨c, hl, hk, hcell⟩ := hc i p hi
  refine ⟨c, hl, by rw [QS.k43_open hk]; exact QS.k43_mk _ p, fun j u hj => ?_⟩
  have := hcell j u hj
  obtain rfl := Option.some.inj e
  rw [mkL] at this ⊢
  rw [blk_cell h2]
  rwa [blk_cell h1] at this
theorem PcOk.below (h : PcOk W base q) (hb : Below W.heap.size W w1) : PcOk w1 base q := h.block (hb.block _ h.lt)
theorem PcOk.grown {u : Value} {t : Nat} (h : PcOk W base q) (ht : t ≠ 43) (hty : ∀ k, u.ownBlock = some k → ∃ cells, W.heap[k]? = some (.cells cells t (0, 0))) (hg : W.grownBy w1 u.ownBlock) : PcOk w1 base q := by
  refine h.block (hg.block _ h.lt fun he => ?_)
  obtain ⟨cells, hc⟩ := hty _ he.symm
  obtain ⟨cur, h1⟩ := h.ty
  rw [h1] at hc
  injection hc with hc
  injection hc with _ hc
  exact ht hc.symm
theorem Pcs.below (h : Pcs W base qs) (hb : Below W.heap.size W w1) : Pcs w1 base qs := ⟨fun q hq => (h.ok q hq).below hb, h.inc⟩
theorem Pcs.grown {u : Value} {t : Nat} (h : Pcs W base qs) (ht : t ≠ 43) (hty : ∀ k, u.ownBlock = some k → ∃ cells, W.heap[k]? = some (.cells cells t (0, 0))) (hg : W.grownBy w1 u.ownBlock) : Pcs w1 base qs := ⟨fun q hq => (h.ok q hq).grown ht hty hg, h.inc⟩
theorem Pcs.nil : Pcs W base [] := ⟨by simp, .nil⟩
theorem Pcs.snoc {n : Nat} (h : Pcs W base qs) (hn : ∀ q ∈ qs, q.g < n) (hq : PcOk W base q) (hq2 : n ≤ q.g) : Pcs W base (qs ++ [q]) := by
  refine ⟨fun p hp => ?_, List.pairwise_append.2 ⟨h.inc, by simp, fun a ha b hb => ?_⟩⟩
  · rcases List.mem_append.1 hp with hp | hp
    · exact h.ok p hp
    · obtain rfl := List.mem_singleton.1 hp; exact hq
  · obtain rfl := List.mem_singleton.1 hb
    exact Nat.lt_of_lt_of_le (hn a ha) hq2
theorem Pcs.low {b : Nat} (h : Pcs W base qs) (hb : b ≤ base) : Pcs W b qs := ⟨fun q hq => ⟨Nat.le_trans hb (h.ok q hq).ge, (h.ok q hq).ty, (h.ok q hq).cap, (h.ok q hq).reads⟩, h.inc⟩
/-- A row that a call made: a piece. -/
theorem pc_of {v : Value} {ok : Nat → Prop} {row : List Cel} (h : Kd.R QS.k43 43 W base ok v row) (hp : 0 < row.length) : ∃ q : Pc, q.row = row ∧ v = .slice (some ⟨q.g, 0, none⟩) q.row.length q.cap ∧ PcOk W base q := by
  obtain ⟨g, cap, rfl, hg, _, cur, hcur⟩ := Kd.R_form h hp
  obtain ⟨_, h2, h3⟩ := Kd.R_reads' h
  exact ⟨⟨g, cap, row⟩, rfl, rfl, hg, ⟨cur, hcur⟩, h2, h3⟩
/-- A list of headers is a list of rows, where each header is one of its row. -/
theorem C_of_hds {A : Option Addr} {ps : List Hd} {ls : List (List Cel)} (h : kH.C W A ps.length ps) (hl : ls.length = ps.length)
    (hp : ∀ (i : Nat) (p : Hd) (l : List Cel), ps[i]? = some p → ls[i]? = some l → p.2.1 = l.length ∧ l.length ≤ p.2.2 ∧ Kd.C QS.k43 W p.1 l.length l) : Kd.C (Kd.slice 43 QS.k43) W A ls.length ls := by
  obtain ⟨h1, h2, h3⟩ := h
  rw [hl]
  refine ⟨hl, h2, fun h0 => ?_⟩
  obtain ⟨ad, e, hc⟩ := h3 h0
  refine ⟨ad, e, fun i l hi => ?_⟩
  have hil : i < ls.length := (List.getElem?_eq_some_iff.1 hi).1
  obtain ⟨p, hpi⟩ : ∃ p, ps[i]? = some p := ⟨ps[i]'(by omega), List.getElem?_eq_getElem (by omega)⟩
  obtain ⟨c, hcl, hk, hcell⟩ := hc i p hpi
  obtain ⟨x1, x2, x3⟩ := hp i p l hpi hi
  obtain rfl : c = [encH p] := hk
  refine ⟨[encH p], rfl, ⟨p.1, p.2.2, by rw [← x1]; rfl, x2, x3⟩, hcell⟩
theorem PcOk.take (h : PcOk W base q) (n : Nat) (hn : n ≤ q.row.length) : Kd.C QS.k43 W (some ⟨q.g, 0, none⟩) (q.row.take n).length (q.row.take n) := Kd.C_take h.reads hn
theorem info_hd : (Tryz.prog.info? 41).map (fun i => (i.zero, i.size, i.bytes)) = some (some (.slice none 0 0), 1, 24) := by kernel_rfl
end Go.Proofs.YtmimninicegjcaaGreatDoor
/- SheetTables: RoomRows over headers. -/
namespace Go.Proofs.YtmimninicegjcaaGreatDoor
open Go.RowKit Go.Shelf Go.Lib Go.Proofs.YtmimninicegjcaaGreatDoorW.PrintWords Go.Proofs.YtmimninicegjcaaGreatDoorW.PrintLast Go.Proofs.YtmimninicegjcaaGreatDoorW.PrintMore
set_option linter.unusedVariables false
set_option linter.unusedSimpArgs false
def markRow (k : Nat) : List Cel := [⟨wrap64 (wrap64 (-700000) - 1), wrap64 (wrap64 (-(k : Int)) - 1), ⟨#[]⟩⟩]
set_option maxRecDepth 100000 in
set_option maxHeartbeats 8000000 in
theorem RoomRows_hds (A : Option Addr) (c : Nat) (ps : List Hd) (w : World) (hr : kH.C w A ps.length ps) (hc : ps.length ≤ c) (hn : ps.length ≤ 1048576) :
    Calls Tryz.prog 56 #[.slice A ps.length c] w fun e w' => ∃ (v : Value) (ms : List Pc), e = .returned v ∧ kH.R 41 w' w.heap.size (fun _ => True) v (ps ++ ms.map Pc.full) ∧ Pcs w' w.heap.size ms ∧
      ms.map Pc.row = (List.range 64).map markRow ∧ Below w.heap.size w w' := by
  have HR := Aside0.mk hr
  have HC := Aside0.mk hc
  have HN := Aside0.mk hn
  clear hr hc hn
  go_enter Tryz.func56, Tryz.ntmps56
  go_wp2_with (first | ((with_reducible refine gate_dst (N := 5) rfl ?_); refine Kd.R_lit kH _ 41 ?hg (N := 5) ?hd (xs := ([] : List Hd)) (inner := []) (ok := fun _ => True) (okp := fun _ => True) ?hr ?hp (fun _ hk => hk) trivial (Below.refl _ _) (Nat.le_refl _) (by simp) ?_; (case hd => rfl); (case hg => rfl); (case hr => first | (go_simp; done) | (go_simp; rfl)); (case hp => exact (Reps.none _ _)); intro v5 w3 ho4 hb hg_ hnew_; clear hg_ hnew_; have HO5 := Aside0.mk ho4; have HB := Aside0.mk hb; clear hb ho4) | ((with_reducible refine gate_builtin (b := .append) (xs := #[.tmp 5, .tmp 6]) rfl ?_); at_builtin; refine Kd.R_append_rows kH (Rr := fun (x : Hd) cs => cs = [encH x]) (w0 := w) w.heap.size rfl (.tmp 5) (.tmp 6) 34 41 (.slice none 0 0) 24 rfl Tryz.underlying34 info_hd rfl (by decide) (by decide) v5 [] ps _ _ _ (fun _ => True) (fun _ => False) rfl rfl ?aO ?aR (fun _ _ h => h) (fun _ h => h.elim) (fun _ _ => trivial) ?aB ?aS ?aL ?_; (case aR => exact Kd.C_below HR.out HB.out); (case aB => exact HB.out); (case aO => exact HO5.out); (case aS => exact HB.out.size); (case aL => have := HN.out; simp only [List.length_nil]; omega); intro v7 w5 ho hb hg hat; have HO7 := Aside0.mk ho; replace HB := Aside0.mk hb; clear HO5 ho hb hg hat))
  go_loopw [3, 4] (fun v3 v4 W => ∃ (k : Nat) (ms : List Pc), v4 = .int .i64 k ∧ k ≤ 64 ∧ Aside0 (kH.R 41 W w.heap.size (fun _ => True) v3 (ps ++ ms.map Pc.full)) ∧ Aside0 (Pcs W w.heap.size ms) ∧ Aside0 (ms.map Pc.row = (List.range k).map markRow) ∧ Aside0 (Below w.heap.size w W)) (fun _ v _ => 64 - (RowKit.intOf v).toNat)
  case atStart => exact ⟨0, [], rfl, by omega, ⟨by simpa using HO7.out⟩, ⟨Pcs.nil⟩, ⟨rfl⟩, HB⟩
  case round =>
    obtain ⟨k, ms, rfl, hk, HO3, HP, HM, HB2⟩ := hrel
    clear HB HO7
    by_cases hlt : k < 64
    · have iK : (k : Int) < 64 := by omega
      go_wp2_with fail
      refine (QS.daybookkeep_markRows.calls 700000 (k : Int) (markRow k) _ rfl).mono ?_
      rintro en w5 ⟨v14, rfl, hm, hb5⟩
      obtain ⟨q, hq, rfl, hok⟩ := pc_of hm (by simp [markRow])
      have HQ := Aside0.mk hq
      have HQL : Aside0 ((markRow k).length = q.row.length) := ⟨by rw [hq]⟩
      have HOK := Aside0.mk (Pcs.snoc (HP.out.below hb5) (fun p hp => (HP.out.ok p hp).lt) (⟨Nat.le_trans HB2.out.size hok.ge, hok.ty, hok.cap, hok.reads⟩ : PcOk w5 w.heap.size q) hok.ge)
      have HO5 := Aside0.mk (Kd.R_below HO3.out hb5)
      have HB5 := Aside0.mk (below_step HB2.out hb5)
      have hln : (ps ++ ms.map Pc.full).length ≤ 1048640 := by
        have h1 := congrArg List.length HM.out
        rw [List.length_map, List.length_map, List.length_range] at h1
        rw [List.length_append, List.length_map]
        have := HN.out
        omega
      have HLN := Aside0.mk hln
      clear hm hb5 hq hok hln
      go_wp2_with (at_builtin; refine Kd.R_append kH (w0 := w) w.heap.size rfl (.tmp 12) (.tmp 15) 34 41 (.slice none 0 0) 24 rfl Tryz.underlying34 info_hd rfl (by decide) (by decide) u3 (ps ++ ms.map Pc.full) q.full [encH q.full] (fun _ => True) (fun _ => False) rfl rfl ?aP (fun _ hk => hk.elim) (fun _ _ => trivial) ?aO ?aB ?aS ?aL ?_; (case aP => exact rfl); (case aO => exact HO5.out); (case aB => exact HB5.out); (case aS => exact HB5.out.size); (case aL => have := HLN.out; omega); intro v1 w7 HR7 hb7 hg7 hat7; have HR7 := Aside0.mk HR7; have HB7 := Aside0.mk hb7; have HP7 := Aside0.mk (HOK.out.grown (by decide) (Kd.R_typed HO5.out) hg7); clear hb7 hg7 hat7)
      go_roundw
      case rel => exact ⟨k + 1, ms ++ [q], by go_num, by omega, ⟨by rw [List.map_append, ← List.append_assoc]; exact HR7.out⟩, HP7, ⟨by rw [List.map_append, HM.out, List.range_succ, List.map_append]; simp [HQ.out]⟩, HB7⟩
      case measure => simp [RowKit.intOf]; omega
    · obtain rfl : k = 64 := by omega
      go_wp2_with fail
      go_ret
      exact ⟨_, ms, rfl, HO3.out, HP.out, HM.out, HB2.out⟩
end Go.Proofs.YtmimninicegjcaaGreatDoor

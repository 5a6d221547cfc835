/- Part of the proof of RowTables: LooseC, KeptW, LooseD, PureR. -/
import Derived.Deep.RegionLaw
import Derived.RegionCalls
import Derived.Test.YtmimninicegjcaaGreatDoorTbKeptS
import Derived.Test.YtmimninicegjcaaGreatDoorTbMLooseALooseB
import Derived.Test.YtmimninicegjcaaGreatDoorTbPureP
import Derived.Test.YtmimninicegjcaaGreatDoorTbQS14
import Derived.Test.YtmimninicegjcaaGreatDoorTbQT6
import Derived.Test.YtmimninicegjcaaGreatDoorTbQT9
/- SheetTables: what stands while loosened makes its lists. -/
namespace Go.Proofs.YtmimninicegjcaaGreatDoor
open Go.RowKit Go.Shelf Go.Lib Go.Proofs.YtmimninicegjcaaGreatDoorW.PrintWords Go.Proofs.YtmimninicegjcaaGreatDoorW.PrintLast Go.Proofs.YtmimninicegjcaaGreatDoorW.PrintMore
set_option linter.unusedVariables false
set_option linter.unusedSimpArgs false
def Pc.half (q : Pc) : Hd := (some ⟨q.g, 0, none⟩, q.row.length - 64, q.cap)
theorem blk_typed' {W w1 : World} {u : Value} {g t t' : Nat} {cs : Array Value} (hk : W.heap[g]? = some (.cells cs t (0, 0))) (ht : t ≠ t') (hty : ∀ k, u.ownBlock = some k → ∃ cells, W.heap[k]? = some (.cells cells t' (0, 0))) (hg : W.grownBy w1 u.ownBlock) : w1.heap[g]? = some (.cells cs t (0, 0)) :=
  blk_grown hk hg (fun he => by
    obtain ⟨cells, hc⟩ := hty g he.symm
    rw [hk] at hc
    injection hc with hc
    injection hc with _ hc
    exact ht hc)
structure Lz (w : World) (b1 b2 : Array Value) (v6 : Value) (ts : List Int) (v7 v8 : Value) (q7 q8 : List Hd) (qs : List Pc) (W : World) : Prop where
  ty : Kd.R (Kd.int .i64) 3 W w.heap.size (fun _ => True) v6 ts
  r7 : kH.R 41 W w.heap.size (fun b => some b ≠ v8.ownBlock) v7 q7
  r8 : kH.R 41 W w.heap.size (fun b => some b ≠ v7.ownBlock) v8 q8
  pcs : Pcs W w.heap.size qs
  blk : W.heap[w.heap.size]? = some (.cells b1 36 (0, 0))
  blk2 : W.heap[w.heap.size + 1]? = some (.cells b2 36 (0, 0))
  bel : Below w.heap.size w W
variable {w W w1 : World} {b1 b2 : Array Value} {v6 v7 v8 v1 : Value} {ts : List Int} {q7 q8 : List Hd} {qs : List Pc} {p : Hd} {q : Pc}
theorem Lz.below (H : Lz w b1 b2 v6 ts v7 v8 q7 q8 qs W) (hb : Below W.heap.size W w1) : Lz w b1 b2 v6 ts v7 v8 q7 q8 qs w1 :=
  ⟨Kd.R_below H.ty hb, Kd.R_below H.r7 hb, Kd.R_below H.r8 hb, H.pcs.below hb, (hb.block _ (blk_lt H.blk)).trans H.blk, (hb.block _ (blk_lt H.blk2)).trans H.blk2, below_step H.bel hb⟩
theorem Lz.alloc (H : Lz w b1 b2 v6 ts v7 v8 q7 q8 qs W) (o : Obj) : Lz w b1 b2 v6 ts v7 v8 q7 q8 qs (W.alloc o) := H.below (below_alloc (Below.refl _ _) o)
theorem Lz.more (H : Lz w b1 b2 v6 ts v7 v8 q7 q8 qs W) (hb : Below W.heap.size W w1) (hq : PcOk w1 W.heap.size q) : Lz w b1 b2 v6 ts v7 v8 q7 q8 (qs ++ [q]) w1 := by
  have h := H.below hb
  exact ⟨h.ty, h.r7, h.r8, Pcs.snoc h.pcs (fun p hp => (H.pcs.ok p hp).lt) ⟨Nat.le_trans H.bel.size hq.ge, hq.ty, hq.cap, hq.reads⟩ hq.ge, h.blk, h.blk2, h.bel⟩
theorem Lz.grow7 (H : Lz w b1 b2 v6 ts v7 v8 q7 q8 qs W) (ho : kH.R 41 w1 w.heap.size (fun b => some b ≠ v8.ownBlock) v1 (q7 ++ [p])) (hb : Below w.heap.size w w1) (hg : W.grownBy w1 v7.ownBlock)
    (hat : v1.ownBlock = v7.ownBlock ∨ ∃ b, v1.ownBlock = some b ∧ W.heap.size ≤ b) : Lz w b1 b2 v6 ts v1 v8 (q7 ++ [p]) q8 qs w1 :=
  ⟨Kd.R_over' H.ty (Kd.R_typed H.r7) (by decide) hg, ho, Kd.R_mono (Kd.R_after (ok := fun _ => True) (Kd.R_mono H.r8 (fun _ hk => ⟨trivial, hk⟩)) hg hat) (fun _ hk => hk.2), H.pcs.grown (by decide) (Kd.R_typed H.r7) hg,
    blk_typed' H.blk (by decide) (Kd.R_typed H.r7) hg, blk_typed' H.blk2 (by decide) (Kd.R_typed H.r7) hg, hb⟩
theorem Lz.grow8 (H : Lz w b1 b2 v6 ts v7 v8 q7 q8 qs W) (ho : kH.R 41 w1 w.heap.size (fun b => some b ≠ v7.ownBlock) v1 (q8 ++ [p])) (hb : Below w.heap.size w w1) (hg : W.grownBy w1 v8.ownBlock)
    (hat : v1.ownBlock = v8.ownBlock ∨ ∃ b, v1.ownBlock = some b ∧ W.heap.size ≤ b) : Lz w b1 b2 v6 ts v7 v1 q7 (q8 ++ [p]) qs w1 :=
  ⟨Kd.R_over' H.ty (Kd.R_typed H.r8) (by decide) hg, Kd.R_mono (Kd.R_after (ok := fun _ => True) (Kd.R_mono H.r7 (fun _ hk => ⟨trivial, hk⟩)) hg hat) (fun _ hk => hk.2), ho, H.pcs.grown (by decide) (Kd.R_typed H.r8) hg,
    blk_typed' H.blk (by decide) (Kd.R_typed H.r8) hg, blk_typed' H.blk2 (by decide) (Kd.R_typed H.r8) hg, hb⟩
/-- What loosened leaves. -/
structure Loosed (base : Nat) (W : World) (ts : List Int) (l : List (List Cel)) (gT cT : Nat) (A7 : Option Addr) (c7 gO cO : Nat) (cm : List Cel) (qs ms : List Pc) : Prop where
  tys : Kd.R (Kd.int .i64) 3 W base (fun _ => True) (.slice (some ⟨gT, 0, none⟩) ts.length cT) ts
  cells : kH.R 41 W base (fun _ => True) (.slice A7 l.length c7) (qs.map Pc.full)
  outer : kH.R 41 W base (fun _ => True) (.slice (some ⟨gO, 0, none⟩) (l.length + 64) cO) (qs.map Pc.half ++ ms.map Pc.full)
  pcs : Pcs W base (qs ++ ms)
  rows : qs.map Pc.row = l.map (· ++ cm)
  marks : ms.map Pc.row = (List.range 64).map markRow
theorem R_set {α : Type} {d : Kd α} {e base : Nat} {ok : Nat → Prop} {v : Value} {xs : List α} {W : World} {g t : Nat} {cs : Array Value} (h : d.R e W base ok v xs) (hb : W.heap[g]? = some (.cells cs t (0, 0))) (ht : ∀ q, q ∈ e :: d.E → q ≠ t) (o : Nat) (u : Value) : d.R e (W.setCell ⟨g, o, none⟩ u) base ok v xs :=
  Kd.R_mono (Kd.R_far (Kd.R_types h hb ht) (p := ⟨g, o, none⟩) (fun k hk => hk.2) _) (fun _ hk => hk.1)
theorem Pcs.set {W : World} {base g t : Nat} {qs : List Pc} {cs : Array Value} (h : Pcs W base qs) (hb : W.heap[g]? = some (.cells cs t (0, 0))) (ht : t ≠ 43) (o : Nat) (u : Value) : Pcs (W.setCell ⟨g, o, none⟩ u) base qs :=
  ⟨fun q hq => (h.ok q hq).block (Below.heap_setCell W ⟨g, o, none⟩ _ _ (fun he => by
    obtain ⟨cur, h1⟩ := (h.ok q hq).ty
    rw [he] at h1
    rw [show (Addr.mk g o none).block = g from rfl] at h1
    rw [hb] at h1
    injection h1 with h1
    injection h1 with _ h1
    exact ht h1)), h.inc⟩
theorem Pcs.append {W : World} {base n : Nat} {qs ms : List Pc} (h : Pcs W base qs) (hn : ∀ q ∈ qs, q.g < n) (h2 : Pcs W n ms) (hb : base ≤ n) : Pcs W base (qs ++ ms) := by
  have h3 := h2.low hb
  refine ⟨fun q hq => ?_, List.pairwise_append.2 ⟨h.inc, h2.inc, fun a ha b hb => Nat.lt_of_lt_of_le (hn a ha) (h2.ok b hb).ge⟩⟩
  rcases List.mem_append.1 hq with hq | hq
  · exact h.ok q hq
  · exact h3.ok q hq
theorem Loosed.set {base : Nat} {W : World} {ts : List Int} {l : List (List Cel)} {gT cT : Nat} {A7 : Option Addr} {c7 gO cO : Nat} {cm : List Cel} {qs ms : List Pc} {g : Nat} {cs : Array Value} (h : Loosed base W ts l gT cT A7 c7 gO cO cm qs ms) (hb : W.heap[g]? = some (.cells cs 36 (0, 0))) (o : Nat) (u : Value) :
    Loosed base (W.setCell ⟨g, o, none⟩ u) ts l gT cT A7 c7 gO cO cm qs ms :=
  ⟨R_set h.tys hb (by decide) o u, R_set h.cells hb (by decide) o u, R_set h.outer hb (by decide) o u, h.pcs.set hb (by decide) o u, h.rows, h.marks⟩
theorem Loosed.below {base : Nat} {W w1 : World} {ts : List Int} {l : List (List Cel)} {gT cT : Nat} {A7 : Option Addr} {c7 gO cO : Nat} {cm : List Cel} {qs ms : List Pc} (h : Loosed base W ts l gT cT A7 c7 gO cO cm qs ms) (hb : Below W.heap.size W w1) :
    Loosed base w1 ts l gT cT A7 c7 gO cO cm qs ms := ⟨Kd.R_below h.tys hb, Kd.R_below h.cells hb, Kd.R_below h.outer hb, h.pcs.below hb, h.rows, h.marks⟩
theorem results_cell4 {P : Program} {fn : Func} {p x y z : Tmp} {ty : TypeId} (h : fn.results = #[.cell p ty, .tmp x, .tmp y, .tmp z]) (tmps : Array Value) (w : World) (g : Nat) (t : TypeId) (cs : Array Value) (fr : Nat × Nat) (d : TypeDesc)
    (hp : tmps.getD p undef = .pointer (some ⟨g, 0, none⟩)) (hg : w.heap[g]? = some (.cells cs t fr))
    (hu : P.underlying ty = some d) (hd : (match d with | .struct _ | .array _ _ => true | _ => false) = true) (hi : (P.info? ty).map (·.size) = some cs.size) :
    (results fn tmps).run P w = .ok (.tuple #[.agg cs, tmps.getD x undef, tmps.getD y undef, tmps.getD z undef]) w := by
  have hp' : tmps[p]?.getD undef = .pointer (some ⟨g, 0, none⟩) := by simpa using hp
  simp [results, h, hp', asAddr, run_loadVar_row w g t ty cs fr d hg hu hd hi]
set_option maxRecDepth 100000 in
set_option maxHeartbeats 8000000 in
theorem loosened_walk (k : Nat) (A1 : Option Addr) (c1 : Nat) (types : List Int) (A2 : Option Addr) (c2 : Nat) (l : List (List Cel)) (w : World) (hr1 : Kd.C (Kd.int .i64) w A1 types.length types) (hc1 : types.length ≤ c1)
    (hr2 : Kd.C (Kd.slice 43 QS.k43) w A2 l.length l) (hc2 : l.length ≤ c2) (hn2 : l.length ≤ 1048576) (hm : ∀ r ∈ l, r.length ≤ 1048576) (ts : List Int) (hts : QS.daybookkeep_RoomInts.f k types = some ts) (htl : types.length < ts.length)
    (cm : List Cel) (hcm : cm.length = 64) (hrm : ∀ r ∈ l, QS.daybookkeep_RoomCells.f k r = some (r ++ cm)) :
    Calls Tryz.prog 15 #[.agg #[.slice A1 types.length c1, .slice A2 l.length c2]] w fun e w' => ∃ (gT cT : Nat) (A7 : Option Addr) (c7 gO cO : Nat) (qs ms : List Pc),
      e = .returned (.tuple #[.agg #[.slice (some ⟨gT, 0, none⟩) types.length cT, .slice (some ⟨gO, 0, none⟩) l.length cO], .slice (some ⟨gT, 0, none⟩) ts.length cT, .slice A7 l.length c7, .slice (some ⟨gO, 0, none⟩) (l.length + 64) cO]) ∧
      Loosed w.heap.size w' ts l gT cT A7 c7 gO cO cm qs ms ∧ Below w.heap.size w w' := by
  have HR1 := Aside0.mk hr1
  have HR2 := Aside0.mk hr2
  have HRD2 := Aside0.mk (crows_at hr2)
  have HC1 := Aside0.mk hc1
  have HC2 := Aside0.mk hc2
  have HN2 := Aside0.mk hn2
  have HM := Aside0.mk hm
  have HTS := Aside0.mk hts
  have HTL := Aside0.mk htl
  have HCM := Aside0.mk hcm
  have HRM := Aside0.mk hrm
  have i2 : (l.length : Int) ≤ 1048576 := by omega
  clear hr1 hr2 hc1 hc2 hn2 hm hts htl hcm hrm
  have HB0 := Aside0.mk (below_alloc (Below.refl w.heap.size w) (.cells #[.slice A1 types.length c1, .slice A2 l.length c2] 36 (0, 0)))
  have HQ0 := Aside0.mk (heap_alloc_new w (.cells #[.slice A1 types.length c1, .slice A2 l.length c2] 36 (0, 0)))
  have HB1 := Aside0.mk (below_alloc HB0.out (.cells #[.slice none 0 0, .slice none 0 0] 36 (0, 0)))
  have HQ1 := Aside0.mk (blk_alloc HQ0.out (.cells #[.slice none 0 0, .slice none 0 0] 36 (0, 0)))
  have HQ2 := Aside0.mk (heap_alloc_new (w.alloc (.cells #[.slice A1 types.length c1, .slice A2 l.length c2] 36 (0, 0))) (.cells #[.slice none 0 0, .slice none 0 0] 36 (0, 0)))
  have h00 := blk_cell HQ1.out 0
  go_enter Tryz.func15, Tryz.ntmps15
  go_wp2_with fail
  refine (QS.daybookkeep_RoomInts.calls k A1 c1 types ts _ (Kd.C_below HR1.out HB1.out) HC1.out HTS.out).mono ?_
  rintro en w2 ⟨v6, rfl, hv6, hb2⟩
  have hsz1 : (w.alloc (.cells #[.slice A1 types.length c1, .slice A2 l.length c2] 36 (0, 0))).heap.size = w.heap.size + 1 := Array.size_push ..
  have HLZ : Aside0 (Lz w #[.slice A1 types.length c1, .slice A2 l.length c2] #[.slice none 0 0, .slice none 0 0] v6 ts (.slice none 0 0) (.slice none 0 0) [] [] [] w2) :=
    ⟨⟨Kd.R_lower hv6 HB1.out.size, Kd.R_nil _ _ _ _ _, Kd.R_nil _ _ _ _ _, Pcs.nil, (hb2.block _ (blk_lt HQ1.out)).trans HQ1.out, by have h := HQ2.out; rw [hsz1] at h; exact (hb2.block _ (blk_lt h)).trans h, below_step HB1.out hb2⟩⟩
  clear h00 hv6 hb2 hsz1 HQ0 HQ1 HQ2 HB0 HB1
  go_wp2_with fail
  go_loopw [7, 8, 9] (fun v7 v8 v9 W => ∃ (i : Nat) (qs : List Pc), v9 = .int .i64 i ∧ i ≤ l.length ∧ Aside0 (Lz w #[.slice A1 types.length c1, .slice A2 l.length c2] #[.slice none 0 0, .slice none 0 0] v6 ts v7 v8 (qs.map Pc.full) (qs.map Pc.half) qs W) ∧ Aside0 (qs.map Pc.row = (l.take i).map (· ++ cm))) (fun _ _ v _ => l.length - (RowKit.intOf v).toNat)
  case atStart => exact ⟨0, [], rfl, Nat.zero_le _, HLZ, ⟨rfl⟩⟩
  case round =>
    obtain ⟨i, qs, rfl, hi, HZ, HQR⟩ := hrel
    clear HLZ
    have hb1 : wr.cell? ⟨w.heap.size, 1, none⟩ = some (.slice A2 l.length c2) := blk_cell HZ.out.blk 1
    by_cases hlt : i < l.length
    · have iI : (i : Int) < (l.length : Int) := by omega
      obtain ⟨ad, rfl⟩ : ∃ ad, A2 = some ad := by
        rcases HRD2.out.1 with h | h
        · rw [h] at hlt; exact absurd hlt (by simp)
        · exact h
      obtain ⟨A', c', hcr, hle, hC'⟩ := HRD2.out.2 ad rfl i hlt
      have HCW := Aside0.mk hcr
      replace hcr := (HZ.out.bel.cell (World.block_lt_of_cell? w _ hcr)).trans hcr
      have HCX := Aside0.mk (Kd.C_below hC' HZ.out.bel)
      have HRR := Aside0.mk (HRM.out _ (List.getElem_mem hlt))
      have HMM := Aside0.mk (HM.out _ (List.getElem_mem hlt))
      have HTK : Aside0 ((l.take (i + 1)).map (· ++ cm) = (l.take i).map (· ++ cm) ++ [l[i] ++ cm]) := ⟨by rw [List.take_succ_eq_append_getElem hlt, List.map_append]; rfl⟩
      clear hC'
      generalize l[i] = r at *
      have iR : (r.length : Int) ≤ 1048576 := by have := HMM.out; omega
      go_wp2_with fail
      refine (QS.daybookkeep_RoomCells.calls k A' c' r (r ++ cm) _ HCX.out hle HRR.out).mono ?_
      rintro en w5 ⟨v27, rfl, hm5, hb5⟩
      obtain ⟨q, hq, rfl, hok⟩ := pc_of hm5 (by rw [List.length_append, HCM.out]; omega)
      have HQ := Aside0.mk hq
      have hql : q.row.length = r.length + 64 := by rw [hq, List.length_append, HCM.out]
      have HQL := Aside0.mk hql
      have HZ5 := Aside0.mk (HZ.out.more hb5 hok)
      have HLN : Aside0 ((qs.map Pc.full).length ≤ 1048576 ∧ (qs.map Pc.half).length ≤ 1048576) := ⟨by
        have h1 := congrArg List.length HQR.out
        rw [List.length_map, List.length_map, List.length_take] at h1
        rw [List.length_map, List.length_map]
        have := HN2.out
        omega⟩
      have hq1 : (r.length : Int) ≤ (q.cap : Int) := by have := hok.cap; omega
      have hq2 : r.length ≤ q.cap := by have := hok.cap; omega
      clear hm5 hq hb5 hok hb1 hcr hql
      go_wp2_with (first | ((with_reducible refine gate_builtin (b := .append) (xs := #[.tmp 28, .tmp 30]) rfl ?_); at_builtin; refine Kd.R_append kH (w0 := w) w.heap.size rfl (.tmp 28) (.tmp 30) 34 41 (.slice none 0 0) 24 rfl Tryz.underlying34 info_hd rfl (by decide) (by decide) u7 (qs.map Pc.full) q.full [encH q.full] (fun b => some b ≠ u8.ownBlock) (fun _ => False) rfl rfl ?aP (fun _ hk => hk.elim) ?aF ?aO ?aB ?aS ?aL ?_; (case aP => exact rfl); (case aF => exact Kd.fresh' (Kd.R_lt HZ5.out.r8)); (case aO => exact HZ5.out.r7); (case aB => exact HZ5.out.bel); (case aS => exact HZ5.out.bel.size); (case aL => have := HLN.out.1; omega); intro v1 w7 HR7 hb7 hg7 hat7; have HZ7 := Aside0.mk (HZ5.out.grow7 HR7 hb7 hg7 hat7); have hb1 : w7.cell? ⟨w.heap.size, 1, none⟩ = some (.slice (some ad) l.length c2) := blk_cell HZ7.out.blk 1; have hcr : w7.cell? (ad.add i) = some (.slice A' r.length c') := (HZ7.out.bel.cell (World.block_lt_of_cell? w _ HCW.out)).trans HCW.out; clear HR7 hb7 hg7 hat7) | ((with_reducible refine gate_builtin (b := .append) (xs := #[.tmp 32, .tmp 41]) rfl ?_); at_builtin; refine Kd.R_append kH (w0 := w) w.heap.size rfl (.tmp 32) (.tmp 41) 34 41 (.slice none 0 0) 24 rfl Tryz.underlying34 info_hd rfl (by decide) (by decide) u8 (qs.map Pc.half) q.half [.slice (some ⟨q.g, 0, none⟩) r.length q.cap] (fun b => some b ≠ v1.ownBlock) (fun _ => False) rfl rfl ?aP (fun _ hk => hk.elim) ?aF ?aO ?aB ?aS ?aL ?_; (case aP => exact (show [Value.slice (some ⟨q.g, 0, none⟩) r.length q.cap] = [encH q.half] by have := HQL.out; rw [show r.length = q.row.length - 64 by omega]; rfl)); (case aF => exact Kd.fresh' (Kd.R_lt HZ7.out.r7)); (case aO => exact HZ7.out.r8); (case aB => exact HZ7.out.bel); (case aS => exact HZ7.out.bel.size); (case aL => have := HLN.out.2; omega); intro v2 w8 HR8 hb8 hg8 hat8; have HZ8 := Aside0.mk (HZ7.out.grow8 HR8 hb8 hg8 hat8); clear HR8 hb8 hg8 hat8))
      go_roundw
      case rel => exact ⟨i + 1, qs ++ [q], by go_num, by omega, ⟨by rw [List.map_append, List.map_append]; exact HZ8.out⟩, ⟨by rw [List.map_append, HQR.out, HTK.out, List.map_singleton, HQ.out]⟩⟩
      case measure => simp [RowKit.intOf]; omega
    · obtain rfl : i = l.length := by omega
      rw [List.take_length] at HQR
      obtain ⟨A8, c8, rfl⟩ := Kd.R_slice HZ.out.r8
      obtain ⟨A7, c7, rfl⟩ := Kd.R_slice HZ.out.r7
      obtain ⟨gT, cT, rfl, hgT, hgT2, curT, hcurT⟩ := Kd.R_form HZ.out.ty (by have := HTL.out; omega)
      have iI : ¬ ((l.length : Int) < (l.length : Int)) := by omega
      have hqn : (qs.map Pc.half).length = l.length := by
        have h1 := congrArg List.length HQR.out
        rw [List.length_map, List.length_map] at h1
        rw [List.length_map, h1]
      have hqn2 : (qs.map Pc.full).length = l.length := by
        have h1 := congrArg List.length HQR.out
        rw [List.length_map, List.length_map] at h1
        rw [List.length_map, h1]
      have H8 := Aside0.mk (Kd.R_reads' HZ.out.r8)
      have HTC := Aside0.mk (Kd.R_reads' HZ.out.ty)
      have HQN := Aside0.mk hqn
      have HQN2 := Aside0.mk hqn2
      have HRO := Aside0.mk (RoomRows_hds A8 c8 (qs.map Pc.half) wr H8.out.2.2 (by have := H8.out.2.1; exact this) (by rw [hqn]; exact HN2.out))
      rw [hqn] at HRO
      rw [hqn, hqn2]
      clear hgT hgT2 hcurT hqn hqn2
      go_wp2_with fail
      refine HRO.out.mono ?_
      rintro en w9 ⟨v11, ms, rfl, ho9, hp9, hm9, hb9⟩
      have hln9 : (qs.map Pc.half ++ ms.map Pc.full).length = l.length + 64 := by
        have h1 := congrArg List.length hm9
        rw [List.length_map, List.length_map, List.length_range] at h1
        rw [List.length_append, HQN.out, List.length_map, h1]
      obtain ⟨gO, cO, rfl, _, _, _, _⟩ := Kd.R_form ho9 (by omega)
      have HZ9 := Aside0.mk (HZ.out.below hb9)
      have hcO := (Kd.R_reads' ho9).2.1
      rw [hln9] at ho9 hcO
      have HO9 := Aside0.mk (Kd.R_lower ho9 HZ.out.bel.size)
      have hr7 := Kd.R_mono HZ9.out.r7 (fun _ _ => trivial : ∀ k, _ → True)
      rw [show (Value.slice A7 (qs.map Pc.full).length c7) = .slice A7 l.length c7 by rw [HQN2.out]] at hr7
      have HLO : Aside0 (Loosed w.heap.size w9 ts l gT cT A7 c7 gO cO cm qs ms) := ⟨⟨HZ9.out.ty, hr7, HO9.out, Pcs.append HZ9.out.pcs (fun q hq => (HZ.out.pcs.ok q hq).lt) hp9 HZ.out.bel.size, HQR.out, hm9⟩⟩
      have HGE := Aside0.mk HZ.out.bel.size
      clear hr7
      have k0 : w9.cell? ⟨w.heap.size, 0, none⟩ = some (.slice A1 types.length c1) := blk_cell HZ9.out.blk 0
      have j1 : (types.length : Int) ≤ (cT : Int) := by have := HTC.out.2.1; have := HTL.out; omega
      have j2 : types.length ≤ cT := by omega
      have j3 : (l.length : Int) ≤ (cO : Int) := by omega
      have j4 : l.length ≤ cO := by omega
      rw [hln9]
      clear hb1 hln9 ho9 hcO hp9 hm9 hb9
      have c0 : w9.cell? ⟨w.heap.size + 1, 0, none⟩ = some (.slice none 0 0) := blk_cell HZ9.out.blk2 0
      have c1' : w9.cell? ⟨w.heap.size + 1, 1, none⟩ = some (.slice none 0 0) := blk_cell HZ9.out.blk2 1
      have f0 : w9.frozen? ⟨w.heap.size + 1, 0, none⟩ = false := blk_frozen HZ9.out.blk2 0
      have f1 : w9.frozen? ⟨w.heap.size + 1, 1, none⟩ = false := blk_frozen HZ9.out.blk2 1
      have hne : w.heap.size ≠ w.heap.size + 1 := by omega
      go_wp2_with fail
      go_region
      all_goals go_wp2_with fail
      have hz2 := HZ9.out.blk2
      refine bodyPost_ret (results_cell4 rfl _ _ (w.heap.size + 1) 36 #[.slice (some ⟨gT, 0, none⟩) types.length cT, .slice (some ⟨gO, 0, none⟩) l.length cO] (0, 0) _ rfl (by refine blk_put (cs := #[.slice (some ⟨gT, 0, none⟩) types.length cT, .slice none 0 0]) ?_ 1 _ rfl; refine blk_put (cs := #[.slice none 0 0, .slice none 0 0]) ?_ 0 _ rfl; exact hz2) Tryz.underlying36 rfl (by kernel_rfl)) rfl ?_
      have hge : w.heap.size ≤ w.heap.size + 1 := Nat.le_succ _
      refine ⟨gT, cT, A7, c7, gO, cO, qs, ms, rfl, Loosed.below ((HLO.out.set hz2 0 _).set (blk_put hz2 0 _ rfl) 1 _) (below_drew (Below.refl _ _)), below_drew ?_⟩
      refine Below.setCell (Below.setCell HZ9.out.bel ?_ _) ?_ _
      · exact hge
      · exact hge
end Go.Proofs.YtmimninicegjcaaGreatDoor
/- SheetTables: kept, walked. -/
namespace Go.Proofs.YtmimninicegjcaaGreatDoor
open Go.RowKit Go.Shelf Go.Lib Go.Proofs.YtmimninicegjcaaGreatDoorW.PrintWords Go.Proofs.YtmimninicegjcaaGreatDoorW.PrintLast Go.Proofs.YtmimninicegjcaaGreatDoorW.PrintMore
set_option linter.unusedVariables false
set_option linter.unusedSimpArgs false
set_option maxRecDepth 100000 in
set_option maxHeartbeats 8000000 in
theorem kept_walk (A1 : Option Addr) (c1 : Nat) (types : List Int) (A2 : Option Addr) (c2 : Nat) (l : List (List Cel)) (AT : Option Addr) (cT : Nat) (A7 : Option Addr) (c7 : Nat) (AO : Option Addr) (cO : Nat) (w : World)
    (hr1 : Kd.C (Kd.int .i64) w A1 types.length types) (hc1 : types.length ≤ c1) (hr2 : Kd.C (Kd.slice 43 QS.k43) w A2 l.length l) (hc2 : l.length ≤ c2)
    (ts : List Int) (hts : ts = types ++ marksInts 64) (l7 : List (List Cel)) (hl7 : l7 = l.map (· ++ marksCells 64)) (os : List (List Cel)) (hos : os = l ++ marksRows 64)
    (hT : Kd.C (Kd.int .i64) w AT ts.length ts) (hcT : ts.length ≤ cT) (h7 : Kd.C (Kd.slice 43 QS.k43) w A7 l7.length l7) (hO : Kd.C (Kd.slice 43 QS.k43) w AO os.length os) (hcO : os.length ≤ cO)
    (hn1 : types.length ≤ 1048576) (hn2 : l.length ≤ 1048576) (hm : ∀ r ∈ l, r.length ≤ 1048576) :
    Calls Tryz.prog 18 #[.agg #[.slice A1 types.length c1, .slice A2 l.length c2], .slice AT ts.length cT, .slice A7 l.length c7, .slice AO os.length cO] w fun e w' => e = .returned (.bool true) ∧ Below w.heap.size w w' := by
  have HB0 := Aside0.mk (below_alloc (Below.refl w.heap.size w) (.cells #[.slice A1 types.length c1, .slice A2 l.length c2] 36 (0, 0)))
  have HQ0 := Aside0.mk (heap_alloc_new w (.cells #[.slice A1 types.length c1, .slice A2 l.length c2] 36 (0, 0)))
  have KI : Aside0 (∀ W, Below w.heap.size w W → Calls Tryz.prog 61 #[.slice AT ts.length cT, .slice A1 types.length c1] W fun e_ w' => e_ = .returned (.bool true) ∧ Below W.heap.size W w') := ⟨fun W hb => by
    subst hts
    exact keptInts_calls types hn1 _ AT cT A1 c1 (Kd.C_below hT hb) hcT (Kd.C_below hr1 hb) hc1⟩
  have KR : Aside0 (∀ W, Below w.heap.size w W → Calls Tryz.prog 62 #[.slice AO os.length cO, .slice A2 l.length c2] W fun e_ w' => e_ = .returned (.bool true) ∧ Below W.heap.size W w') := ⟨fun W hb => by
    subst hos
    exact keptRows_calls l hn2 W AO cO A2 c2 (Kd.C_below hO hb) hcO (Kd.C_below hr2 hb) hc2⟩
  have h7l : l7.length = l.length := by rw [hl7, List.length_map]
  have KC : Aside0 (∀ i, i < l.length → ∃ (ad2 ad7 : Addr) (A' : Option Addr) (n' c' : Nat) (B' : Option Addr) (m' d' : Nat), A2 = some ad2 ∧ A7 = some ad7 ∧ w.cell? (ad2.add i) = some (.slice A' n' c') ∧ w.cell? (ad7.add i) = some (.slice B' m' d') ∧
      ∀ W, Below w.heap.size w W → Calls Tryz.prog 63 #[.slice B' m' d', .slice A' n' c'] W fun e_ w' => e_ = .returned (.bool true) ∧ Below W.heap.size W w') := ⟨fun i hlt => by
    have hl2 := crows_at hr2
    have hl7' := crows_at h7
    obtain ⟨ad, rfl⟩ : ∃ ad, A2 = some ad := by
      rcases hl2.1 with h | h
      · rw [h] at hlt; exact absurd hlt (by simp)
      · exact h
    obtain ⟨ad7, rfl⟩ : ∃ ad, A7 = some ad := by
      rcases hl7'.1 with h | h
      · rw [h] at h7l; rw [← h7l] at hlt; exact absurd hlt (by simp)
      · exact h
    obtain ⟨A', c', x1, x2, x3⟩ := hl2.2 ad rfl i hlt
    obtain ⟨B', d', y1, y2, y3⟩ := hl7'.2 ad7 rfl i (by omega)
    have e7 : l7[i]'(by omega) = l[i] ++ marksCells 64 := by subst hl7; rw [List.getElem_map]
    rw [e7] at y1 y2 y3
    exact ⟨ad, ad7, A', _, c', B', _, d', rfl, rfl, x1, y1, fun W hb => keptCells_calls l[i] (hm _ (List.getElem_mem hlt)) W B' d' A' c' (Kd.C_below y3 hb) y2 (Kd.C_below x3 hb) x2⟩⟩
  have HN2 := Aside0.mk hn2
  have i2 : (l.length : Int) ≤ 1048576 := by omega
  have h00 := blk_cell HQ0.out 0
  clear hr1 hc1 hr2 hc2 hT hcT h7 hO hcO hn1 hn2 hm hts hl7 hos h7l
  go_enter Tryz.func18, Tryz.ntmps18
  go_wp2_with fail
  refine (KI.out _ HB0.out).mono ?_
  rintro en w2 ⟨rfl, hb2⟩
  have HB2 := Aside0.mk (below_step HB0.out hb2)
  have HQ2 := Aside0.mk ((hb2.block _ (blk_lt HQ0.out)).trans HQ0.out)
  have h11 : w2.cell? ⟨w.heap.size, 1, none⟩ = some (.slice A2 l.length c2) := blk_cell HQ2.out 1
  clear hb2 h00 KI HQ0 HB0
  go_wp2_with fail
  refine (KR.out _ HB2.out).mono ?_
  rintro en w3 ⟨rfl, hb3⟩
  have HB3 := Aside0.mk (below_step HB2.out hb3)
  have HQ3 := Aside0.mk ((hb3.block _ (blk_lt HQ2.out)).trans HQ2.out)
  clear hb3 h11 KR HQ2 HB2
  go_wp2_with fail
  go_loopw [9] (fun v9 W => ∃ i : Nat, v9 = .int .i64 i ∧ i ≤ l.length ∧ Aside0 (Below w.heap.size w W) ∧ Aside0 (W.heap[w.heap.size]? = some (.cells #[.slice A1 types.length c1, .slice A2 l.length c2] 36 (0, 0)))) (fun v _ => l.length - (RowKit.intOf v).toNat)
  case atStart => exact ⟨0, rfl, Nat.zero_le _, HB3, HQ3⟩
  case round =>
    obtain ⟨i, rfl, hi, HB, HQ⟩ := hrel
    clear HB3 HQ3
    have h1 : wr.cell? ⟨w.heap.size, 1, none⟩ = some (.slice A2 l.length c2) := blk_cell HQ.out 1
    by_cases hlt : i < l.length
    · have iI : (i : Int) < (l.length : Int) := by omega
      obtain ⟨ad, ad7, A', n', c', B', m', d', rfl, rfl, x1, y1, hKC⟩ := KC.out i hlt
      have KCI := Aside0.mk hKC
      replace x1 := (HB.out.cell (World.block_lt_of_cell? w _ x1)).trans x1
      replace y1 := (HB.out.cell (World.block_lt_of_cell? w _ y1)).trans y1
      clear hKC
      go_wp2_with fail
      go_region_with (refine (KCI.out _ (by repeat (first | exact HB.out | apply below_drew))).mono ?_; rintro en w5 ⟨rfl, hb5⟩; have HB5 := Aside0.mk hb5; clear hb5)
      all_goals go_wp2_with fail
      all_goals go_roundw
      all_goals first
        | (simp [RowKit.intOf]; omega)
        | exact ⟨i + 1, by go_num, by omega, ⟨below_step (by repeat (first | exact HB.out | apply below_drew)) HB5.out⟩, ⟨(HB5.out.block _ (blk_lt HQ.out)).trans HQ.out⟩⟩
        | exact ⟨i + 1, by go_num, by omega, ⟨below_drew (below_step (by repeat (first | exact HB.out | apply below_drew)) HB5.out)⟩, ⟨(HB5.out.block _ (blk_lt HQ.out)).trans HQ.out⟩⟩
    · obtain rfl : i = l.length := by omega
      have iI : ¬ ((l.length : Int) < (l.length : Int)) := by omega
      go_wp2_with fail
      go_ret
      exact ⟨rfl, HB.out⟩
end Go.Proofs.YtmimninicegjcaaGreatDoor
/- SheetTables: what loosened's lists show; one cell of one row written over. -/
namespace Go.Proofs.YtmimninicegjcaaGreatDoor
open Go.RowKit Go.Shelf Go.Lib Go.Proofs.YtmimninicegjcaaGreatDoorW.PrintWords Go.Proofs.YtmimninicegjcaaGreatDoorW.PrintLast Go.Proofs.YtmimninicegjcaaGreatDoorW.PrintMore
set_option linter.unusedVariables false
set_option linter.unusedSimpArgs false
variable {base : Nat} {W : World} {ts : List Int} {l : List (List Cel)} {gT cT : Nat} {A7 : Option Addr} {c7 gO cO : Nat} {cm : List Cel} {qs ms : List Pc}
theorem Loosed.len (h : Loosed base W ts l gT cT A7 c7 gO cO cm qs ms) : qs.length = l.length ∧ ms.length = 64 := by
  have h1 := congrArg List.length h.rows
  have h2 := congrArg List.length h.marks
  simp only [List.length_map, List.length_range] at h1 h2
  exact ⟨h1, h2⟩
theorem Loosed.at (h : Loosed base W ts l gT cT A7 c7 gO cO cm qs ms) {i : Nat} {q : Pc} {r : List Cel} (hq : qs[i]? = some q) (hr : l[i]? = some r) : q.row = r ++ cm := by
  have h1 := congrArg (fun x : List (List Cel) => x[i]?) h.rows
  simp only [List.getElem?_map, hq, hr, Option.map_some] at h1
  exact Option.some.inj h1
theorem Loosed.marked (h : Loosed base W ts l gT cT A7 c7 gO cO cm qs ms) {i : Nat} {q : Pc} {r : List Cel} (hq : ms[i]? = some q) (hr : ((List.range 64).map markRow)[i]? = some r) : q.row = r := by
  have h1 := congrArg (fun x : List (List Cel) => x[i]?) h.marks
  simp only [List.getElem?_map, hq, Option.map_some] at h1
  rw [List.getElem?_map] at hr
  rw [hr] at h1
  exact Option.some.inj h1
theorem Loosed.readsCells (h : Loosed base W ts l gT cT A7 c7 gO cO cm qs ms) (l7 : List (List Cel)) (hl7 : l7 = l.map (· ++ cm)) : Kd.C (Kd.slice 43 QS.k43) W A7 l7.length l7 := by
  have hl := h.len.1
  obtain ⟨h1, h2, h3⟩ := Kd.R_reads' h.cells
  refine C_of_hds h3 (by rw [hl7, List.length_map, List.length_map, hl]) ?_
  intro i p x hp hx
  rw [List.getElem?_map] at hp
  obtain ⟨q, hq, rfl⟩ := Option.map_eq_some_iff.1 hp
  rw [hl7, List.getElem?_map] at hx
  obtain ⟨r, hr, rfl⟩ := Option.map_eq_some_iff.1 hx
  have e := h.at hq hr
  have hok := h.pcs.ok q (List.mem_append_left _ (List.mem_of_getElem? hq))
  rw [← e]
  exact ⟨rfl, hok.cap, hok.reads⟩
theorem Loosed.readsOuter (h : Loosed base W ts l gT cT A7 c7 gO cO cm qs ms) (hcm : cm.length = 64) (os : List (List Cel)) (hos : os = l ++ (List.range 64).map markRow) : Kd.C (Kd.slice 43 QS.k43) W (some ⟨gO, 0, none⟩) os.length os := by
  obtain ⟨hl, hm⟩ := h.len
  obtain ⟨h1, h2, h3⟩ := Kd.R_reads' h.outer
  refine C_of_hds h3 (by rw [hos]; simp only [List.length_append, List.length_map, List.length_range]; omega) ?_
  intro i p x hp hx
  rw [hos] at hx
  by_cases hi : i < l.length
  · rw [List.getElem?_append_left hi] at hx
    rw [List.getElem?_append_left (by rw [List.length_map, hl]; exact hi), List.getElem?_map] at hp
    obtain ⟨q, hq, rfl⟩ := Option.map_eq_some_iff.1 hp
    have e := h.at hq hx
    have hok := h.pcs.ok q (List.mem_append_left _ (List.mem_of_getElem? hq))
    have hlen : q.row.length = x.length + 64 := by rw [e, List.length_append, hcm]
    have ht := hok.take x.length (by omega)
    rw [e, List.take_left'] at ht
    · exact ⟨(by show q.row.length - 64 = x.length; omega), (by show x.length ≤ q.cap; have := hok.cap; omega), ht⟩
    · rfl
  · rw [List.getElem?_append_right (by omega)] at hx
    rw [List.getElem?_append_right (by rw [List.length_map, hl]; omega), List.getElem?_map, List.length_map, hl] at hp
    obtain ⟨q, hq, rfl⟩ := Option.map_eq_some_iff.1 hp
    have e := h.marked hq hx
    have hok := h.pcs.ok q (List.mem_append_right _ (List.mem_of_getElem? hq))
    rw [← e]
    exact ⟨rfl, hok.cap, hok.reads⟩
theorem cels_put0 {g t : Nat} {cur : Array Value} {xs : List Cel} (hp : 0 < xs.length) (z : ByteArray) (hb : W.heap[g]? = some (.cells cur t (0, 0))) (h : Kd.C QS.k43 W (some ⟨g, 0, none⟩) xs.length xs) :
    Kd.C QS.k43 ((W.setCell ⟨g, 1, none⟩ (.int .i64 0)).setCell ⟨g, 2, none⟩ (.string z)) (some ⟨g, 0, none⟩) (xs.set 0 ⟨xs[0].f0, 0, z⟩).length (xs.set 0 ⟨xs[0].f0, 0, z⟩) := by
  obtain ⟨h1, h2, h3⟩ := h
  obtain ⟨ad, e, hc⟩ := h3 hp
  obtain rfl := Option.some.inj e
  have hget : ∀ i (hi : i < xs.length) (m : Nat) (u : Value), ([Value.int .i64 xs[i].f0, .int .i64 xs[i].f1, .string xs[i].f2] : List Value)[m]? = some u → cur[i * 3 + m]? = some u := by
    intro i hi m u hm
    obtain ⟨c, hl, hk, hcell⟩ := hc i _ (List.getElem?_eq_getElem hi)
    have hk2 := QS.k43_open hk
    have := hcell m u (by rw [hk2]; exact hm)
    rw [mkL] at this
    rwa [blk_cell hb] at this
  have hsz : 3 ≤ cur.size := by
    have := hget 0 hp 2 _ rfl
    have := (Array.getElem?_eq_some_iff.1 this).1
    omega
  have hbb := blk_set (blk_set hb 1 (.int .i64 0)) 2 (.string z)
  refine ⟨rfl, by rw [List.length_set]; exact h2, fun hp => ⟨_, rfl, fun i p hip => ?_⟩⟩
  have hil : i < (xs.set 0 _).length := (List.getElem?_eq_some_iff.1 hip).1
  rw [List.length_set] at hil
  by_cases hi0 : i = 0
  · subst hi0
    rw [List.getElem?_set_self hil] at hip
    obtain rfl := Option.some.inj hip
    refine ⟨_, rfl, QS.k43_mk _ _, fun m u hm => ?_⟩
    rw [mkL]
    have hm3 : m < 3 := (List.getElem?_eq_some_iff.1 hm).1
    have hs3 : QS.k43.sz = 3 := rfl
    rw [hs3, blk_cell hbb]
    have : m = 0 ∨ m = 1 ∨ m = 2 := by omega
    rcases this with rfl | rfl | rfl
    · rw [Array.getElem?_setIfInBounds_ne (by omega), Array.getElem?_setIfInBounds_ne (by omega), hget 0 hil 0 _ rfl, ← hm]
      rfl
    · rw [Array.getElem?_setIfInBounds_ne (by omega), show 0 * 3 + 1 = 1 from rfl, Array.getElem?_setIfInBounds_self_of_lt (by omega), ← hm]
      rfl
    · rw [show 0 * 3 + 2 = 2 from rfl, Array.getElem?_setIfInBounds_self_of_lt (by rw [Array.size_setIfInBounds]; omega), ← hm]
      rfl
  · rw [List.getElem?_set_ne (by omega)] at hip
    obtain ⟨_, rfl⟩ := List.getElem?_eq_some_iff.1 hip
    refine ⟨_, rfl, QS.k43_mk _ _, fun m u hm => ?_⟩
    have hs3 : QS.k43.sz = 3 := rfl
    rw [mkL, hs3, blk_cell hbb, Array.getElem?_setIfInBounds_ne (by omega), Array.getElem?_setIfInBounds_ne (by omega)]
    exact hget i hil m u hm
/-- The piece number j, its first cell written over. -/
theorem Loosed.put (h : Loosed base W ts l gT cT A7 c7 gO cO cm qs ms) (hcm : cm.length = 64) {j : Nat} (hj : j < l.length) (hp : 0 < l[j].length) (z : ByteArray) (g cap : Nat) (hq : qs[j]? = some ⟨g, cap, l[j] ++ cm⟩) :
    ∃ qs', Loosed base ((W.setCell ⟨g, 1, none⟩ (.int .i64 0)).setCell ⟨g, 2, none⟩ (.string z)) ts (l.set j (l[j].set 0 ⟨l[j][0].f0, 0, z⟩)) gT cT A7 c7 gO cO cm qs' ms := by
  obtain ⟨hl, hm⟩ := h.len
  have hjq : j < qs.length := by omega
  have hmem : (⟨g, cap, l[j] ++ cm⟩ : Pc) ∈ qs ++ ms := List.mem_append_left _ (List.mem_of_getElem? hq)
  have hok := h.pcs.ok _ hmem
  obtain ⟨cur, hcur⟩ := hok.ty
  have hcur : W.heap[g]? = some (.cells cur 43 (0, 0)) := hcur
  have hcur2 := blk_set hcur 1 (.int .i64 0)
  have hcur3 := blk_set hcur2 2 (.string z)
  have hqj : qs[j] = ⟨g, cap, l[j] ++ cm⟩ := by
    have := List.getElem?_eq_getElem hjq
    rw [this] at hq
    exact Option.some.inj hq
  obtain ⟨r', hr'⟩ : ∃ r', r' = l[j].set 0 ⟨l[j][0].f0, 0, z⟩ := ⟨_, rfl⟩
  have hrl : r'.length = l[j].length := by rw [hr', List.length_set]
  rw [← hr']
  have hset : ∀ (f : Pc → Hd), f ⟨g, cap, r' ++ cm⟩ = f ⟨g, cap, l[j] ++ cm⟩ → (qs.set j ⟨g, cap, r' ++ cm⟩).map f = qs.map f := by
    intro f hf
    rw [List.map_set, hf, ← hqj, ← List.getElem_map f (h := by rw [List.length_map]; exact hjq), List.set_getElem_self]
  have hfull : (qs.set j ⟨g, cap, r' ++ cm⟩).map Pc.full = qs.map Pc.full := hset _ (by simp [Pc.full, hrl])
  have hhalf : (qs.set j ⟨g, cap, r' ++ cm⟩).map Pc.half = qs.map Pc.half := hset _ (by simp [Pc.half, hrl])
  refine ⟨qs.set j ⟨g, cap, r' ++ cm⟩, R_set (R_set h.tys hcur (by decide) 1 _) hcur2 (by decide) 2 _, ?_, ?_, ?_, ?_, h.marks⟩
  · rw [hfull, List.length_set]
    exact R_set (R_set h.cells hcur (by decide) 1 _) hcur2 (by decide) 2 _
  · rw [hhalf, List.length_set]
    exact R_set (R_set h.outer hcur (by decide) 1 _) hcur2 (by decide) 2 _
  · have hgs : (qs.set j ⟨g, cap, r' ++ cm⟩ ++ ms).map Pc.g = (qs ++ ms).map Pc.g := by
      rw [List.map_append, List.map_append, List.map_set]
      congr 1
      have : (Pc.mk g cap (r' ++ cm)).g = (qs.map Pc.g)[j]'(by rw [List.length_map]; exact hjq) := by rw [List.getElem_map, hqj]
      rw [this, List.set_getElem_self]
    have hinc : ((qs ++ ms).map Pc.g).Pairwise (· < ·) := List.pairwise_map.2 h.pcs.inc
    refine ⟨fun q hqm => ?_, by rw [← hgs] at hinc; exact List.pairwise_map.1 hinc⟩
    obtain ⟨i, hi, rfl⟩ := List.getElem_of_mem hqm
    have hlen2 : (qs.set j ⟨g, cap, r' ++ cm⟩ ++ ms).length = (qs ++ ms).length := by simp
    by_cases hij : i = j
    · subst hij
      have e : (qs.set i ⟨g, cap, r' ++ cm⟩ ++ ms)[i] = ⟨g, cap, r' ++ cm⟩ := by
        rw [List.getElem_append_left (by rw [List.length_set]; exact hjq), List.getElem_set_self]
      rw [e]
      have hpp : 0 < (l[i] ++ cm).length := by rw [List.length_append]; omega
      have hnew := cels_put0 hpp z hcur hok.reads
      have e2 : (l[i] ++ cm).set 0 ⟨(l[i] ++ cm)[0].f0, 0, z⟩ = r' ++ cm := by
        rw [List.getElem_append_left hp, List.set_append_left _ _ hp, hr']
      rw [e2] at hnew
      refine ⟨hok.ge, ⟨_, hcur3⟩, ?_, hnew⟩
      have := hok.cap
      show (r' ++ cm).length ≤ cap
      rw [List.length_append, hrl, ← List.length_append]
      exact this
    · have hi2 : i < (qs ++ ms).length := by omega
      have e : (qs.set j ⟨g, cap, r' ++ cm⟩ ++ ms)[i] = (qs ++ ms)[i] := by
        by_cases hiq : i < qs.length
        · rw [List.getElem_append_left (by rw [List.length_set]; exact hiq), List.getElem_append_left hiq, List.getElem_set_ne (by omega)]
        · rw [List.getElem_append_right (by rw [List.length_set]; omega), List.getElem_append_right (by omega)]
          simp
      rw [e]
      have hne : (qs ++ ms)[i].g ≠ g := by
        have hjj : (qs ++ ms)[j]'(by rw [List.length_append]; omega) = ⟨g, cap, l[j] ++ cm⟩ := by rw [List.getElem_append_left hjq, hqj]
        have hgj : ((qs ++ ms).map Pc.g)[j]'(by rw [List.length_map, List.length_append]; omega) = g := by rw [List.getElem_map, hjj]
        have hgi : ((qs ++ ms).map Pc.g)[i]'(by rw [List.length_map]; exact hi2) = (qs ++ ms)[i].g := by rw [List.getElem_map]
        have hpw := List.pairwise_iff_getElem.1 hinc
        rcases Nat.lt_or_gt_of_ne hij with hlt | hlt
        · have := hpw i j (by rw [List.length_map]; exact hi2) (by rw [List.length_map, List.length_append]; omega) hlt
          rw [hgj, hgi] at this
          omega
        · have := hpw j i (by rw [List.length_map, List.length_append]; omega) (by rw [List.length_map]; exact hi2) hlt
          rw [hgj, hgi] at this
          omega
      have hold := h.pcs.ok _ (List.getElem_mem hi2)
      exact (hold.block (Below.heap_setCell W ⟨g, 1, none⟩ _ _ hne)).block (Below.heap_setCell _ ⟨g, 2, none⟩ _ _ hne)
  · rw [List.map_set, h.rows, List.map_set]
end Go.Proofs.YtmimninicegjcaaGreatDoor
/- Plain laws: copied is the table itself. -/
namespace Go.Proofs.YtmimninicegjcaaGreatDoor
open Go.RowKit Go.Shelf Go.Lib Go.Proofs.YtmimninicegjcaaGreatDoorW.PrintWords Go.Proofs.YtmimninicegjcaaGreatDoorW.PrintLast
set_option linter.unusedVariables false
set_option linter.unusedSimpArgs false
theorem copied_loop (types : List Int) (rows : List (List Cel)) (hn : rows.length ≤ 1048576) (hm : ∀ r ∈ rows, r.length ≤ 1048576) (x : List Int) (m : Nat) : ∀ (i k : Nat), i + m = rows.length → m < k →
    QS.daybooklaw17_copied.l0 k (i : Int) types rows x (rows.take i) = some (x, rows) := by
  induction m with
  | zero =>
    intro i k hi hk
    obtain ⟨k, rfl⟩ : ∃ j, k = j + 1 := ⟨k - 1, by omega⟩
    have : rows.take i = rows := List.take_of_length_le (by omega)
    rw [this]
    simp only [QS.daybooklaw17_copied.l0]
    rw [if_neg (by omega)]
  | succ m ih =>
    intro i k hi hk
    obtain ⟨k, rfl⟩ : ∃ j, k = j + 1 := ⟨k - 1, by omega⟩
    have hlt : i < rows.length := by omega
    have wi : wrap64 ((i : Int) + 1) = ((i + 1 : Nat) : Int) := by unfold wrap64; omega
    have a1 : (i : Int) < (rows.length : Int) := by omega
    have a2 : (0 : Int) ≤ (i : Int) := Int.natCast_nonneg i
    have hr := hm _ (List.getElem_mem hlt)
    have a3 : ([] : List Cel).length + rows[i].length < 4398046511104 := by rw [List.length_nil]; omega
    have hl := List.length_take_le i rows
    have a4 : (rows.take i).length < 5864062014805 := by omega
    simp only [QS.daybooklaw17_copied.l0]
    rw [if_pos a1]
    simp only [Option.bind_some]
    rw [if_pos a2, rd_crows rows i hlt, if_pos a3, if_pos a4, wi, List.nil_append, ← List.take_succ_eq_append_getElem hlt]
    exact ih (i + 1) k (by omega) (by omega)
theorem copied_some (types : List Int) (rows : List (List Cel)) (ht : types.length ≤ 1048576) (hn : rows.length ≤ 1048576) (hm : ∀ r ∈ rows, r.length ≤ 1048576) (k : Nat) (hk : rows.length < k) : QS.daybooklaw17_copied.f k types rows = some (types, rows) := by
  unfold QS.daybooklaw17_copied.f
  simp only [Option.bind_some]
  rw [if_pos (by rw [List.length_nil]; omega), List.nil_append]
  have := copied_loop types rows hn hm types rows.length 0 k (by omega) hk
  rw [List.take_zero] at this
  exact this
theorem like_same (s : ByteArray) (e : Int) : QT.daybooklaw17_like.f s e s e = some true := by
  unfold QT.daybooklaw17_like.f QT.daybooklaw17_num.f
  simp
theorem first_yes : QT.daybooklaw17_first.f = some true := by decide +kernel
/-- sheet.Table, as its callers see it. -/
theorem H_Table {types : List Int} {l : List (List Cel)} (hf : TableFits types l) (A1 : Option Addr) (c1 : Nat) (A2 : Option Addr) (c2 : Nat) (d : Int) (w : World) (hr1 : Kd.C (Kd.int .i64) w A1 types.length types) (hc1 : types.length ≤ c1)
    (hr2 : Kd.C (Kd.slice 43 QS.k43) w A2 l.length l) (hc2 : l.length ≤ c2) (hL : LaidM w) :
    Calls Tryz.prog 16 #[.agg #[.slice A1 types.length c1, .slice A2 l.length c2], .int .i64 d] w fun e w' => e = .returned (.tuple #[.string (tableOut types l d).1, .int .i64 (tableOut types l d).2]) ∧ Below w.heap.size w w' :=
  Table_walk A1 c1 types A2 c2 l d w hr1 hc1 hr2 hc2 hL hf.cols hf.nrows (fun r hr => by have := hf.row r hr; omega)
    (fun h0 h6 r hr c hc => (cellT_fits h0 h6 (hf.cells r hr c hc)).2.1) (fun h0 h6 _ hz => table_fits hf h0 h6 hz)
/-- The table with the first cell of row j written over. -/
theorem TableFits.put {types : List Int} {l : List (List Cel)} (hf : TableFits types l) {j : Nat} (hj : j < l.length) (hp : 0 < l[j].length) : TableFits types (l.set j (l[j].set 0 ⟨l[j][0].f0, 0, ⟨#[122]⟩⟩)) := by
  have hmem : ∀ r ∈ l.set j (l[j].set 0 ⟨l[j][0].f0, 0, ⟨#[122]⟩⟩), ∃ r0 ∈ l, r.length = r0.length ∧ ∀ c ∈ r, c ∈ r0 ∨ (c.f1 = 0 ∧ c.f2 = ⟨#[122]⟩) := by
    intro r hr
    rcases List.mem_or_eq_of_mem_set hr with h | rfl
    · exact ⟨r, h, rfl, fun c hc => .inl hc⟩
    · refine ⟨l[j], List.getElem_mem hj, List.length_set, fun c hc => ?_⟩
      rcases List.mem_or_eq_of_mem_set hc with h | rfl
      · exact .inl h
      · exact .inr ⟨rfl, rfl⟩
  refine ⟨hf.cols, by rw [List.length_set]; exact hf.nrows, fun r hr => ?_, fun h => ?_, fun r hr c hc => ?_⟩
  · obtain ⟨r0, h0, h1, _⟩ := hmem r hr
    rw [h1]
    exact hf.row r0 h0
  · rw [List.length_set]
    refine hf.all fun r hr => ?_
    obtain ⟨i, hi, rfl⟩ := List.getElem_of_mem hr
    by_cases hij : i = j
    · subst hij
      have := h (l[i].set 0 ⟨l[i][0].f0, 0, ⟨#[122]⟩⟩) (List.mem_set hj _)
      rwa [List.length_set] at this
    · refine h l[i] ?_
      have : (l.set j (l[j].set 0 ⟨l[j][0].f0, 0, ⟨#[122]⟩⟩))[i]'(by rw [List.length_set]; exact hi) = l[i] := List.getElem_set_ne (by omega) _
      rw [← this]
      exact List.getElem_mem _
  · obtain ⟨r0, h0, _, h2⟩ := hmem r hr
    rcases h2 c hc with h | ⟨e1, e2⟩
    · exact hf.cells r0 h0 c h
    · rw [e1, e2]
      exact ⟨⟨by decide, by decide⟩, by decide⟩
end Go.Proofs.YtmimninicegjcaaGreatDoor

/- sheet.Trial's two rows of amounts: what stands while both grow. -/
import Derived.Test.YtmimninicegjcaaGreatDoorTbLeafB
import Derived.Test.YtmimninicegjcaaGreatDoorTbMTrialATrialB
namespace Go.Proofs.YtmimninicegjcaaGreatDoor
open Go.RowKit Go.Shelf Go.Lib Go.Proofs.YtmimninicegjcaaGreatDoorW.PrintWords Go.Proofs.YtmimninicegjcaaGreatDoorW.PrintLast Go.Proofs.YtmimninicegjcaaGreatDoorW.PrintMore
set_option linter.unusedVariables false
abbrev Col := QT.S31
theorem info_i64 : (Tryz.prog.info? 2).map (fun i => (i.zero, i.size, i.bytes)) = some (some (.int .i64 0), 1, 8) := by kernel_rfl
structure Two (w0 : World) (gb h : Nat) (d y : Int) (c : Col) (v9 v10 : Value) (xs ys : List Int) (W : World) : Prop where
  r9 : Kd.R (Kd.int .i64) 2 W w0.heap.size (fun b => some b ≠ v10.ownBlock) v9 xs
  r10 : Kd.R (Kd.int .i64) 2 W w0.heap.size (fun b => some b ≠ v9.ownBlock) v10 ys
  st : St W w0.heap.size w0.heap.size h d y []
  blk : W.heap[gb]? = some (.cells #[.string c.f0, .int .i64 c.f1, .int .i64 c.f2] 31 (0, 0))
  bel : Below w0.heap.size w0 W
variable {w0 W w1 : World} {gb h base g : Nat} {d y : Int} {c : Col} {v9 v10 v1 : Value} {xs ys : List Int} {p : Int} {rows : List (List ByteArray)}
theorem Two.alloc (H : Two w0 gb h d y c v9 v10 xs ys W) (o : Obj) : Two w0 gb h d y c v9 v10 xs ys (W.alloc o) :=
  ⟨Kd.R_alloc H.r9 o, Kd.R_alloc H.r10 o, H.st.below (below_alloc (Below.refl _ _) o), blk_alloc H.blk o, below_step H.bel (below_alloc (Below.refl _ _) o)⟩
theorem Two.drew (H : Two w0 gb h d y c v9 v10 xs ys W) : Two w0 gb h d y c v9 v10 xs ys W.drew :=
  ⟨Kd.R_drew H.r9, Kd.R_drew H.r10, H.st.below (below_drew (Below.refl _ _)), H.blk, below_step H.bel (below_drew (Below.refl _ _))⟩
theorem Two.drewN (H : Two w0 gb h d y c v9 v10 xs ys W) (n : Nat) : Two w0 gb h d y c v9 v10 xs ys (W.drewN n) :=
  ⟨Kd.R_drewN H.r9 n, Kd.R_drewN H.r10 n, H.st.below (pw_below_drewN (Below.refl _ _) n), H.blk, below_step H.bel (pw_below_drewN (Below.refl _ _) n)⟩
theorem Sh.grown {u : Value} (H : Sh W base g d y rows) (hty : ∀ k, u.ownBlock = some k → ∃ cells, W.heap[k]? = some (.cells cells 2 (0, 0))) (hg : W.grownBy w1 u.ownBlock) : Sh w1 base g d y rows := by
  obtain ⟨vr, h1, h2⟩ := H.ex
  refine ⟨⟨vr, blk_grown h1 hg (fun he => ?_), Kd.R_over' h2 hty (by decide) hg⟩, H.ge⟩
  obtain ⟨cells, hc⟩ := hty g he.symm
  rw [h1] at hc
  injection hc with hc
  injection hc with _ hc
  exact absurd hc (by decide)
theorem St.grown {u : Value} (H : St W base g h d y rows) (h16 : 7 ≤ base) (hty : ∀ k, u.ownBlock = some k → ∃ cells, W.heap[k]? = some (.cells cells 2 (0, 0))) (hg : W.grownBy w1 u.ownBlock) (hb : ∀ k, u.ownBlock = some k → base ≤ k) : St w1 base g h d y rows := by
  refine ⟨H.sh.grown hty hg, blk_grown H.box hg (fun he => ?_), H.laid.kt ⟨hg.os, hg.tape, hg.output, hg.size, fun k hk => hg.block k (Nat.lt_of_lt_of_le hk H.sh.base_le) (fun he => by have := hb k he.symm; omega)⟩ h16⟩
  obtain ⟨cells, hc⟩ := hty h he.symm
  rw [H.box] at hc
  injection hc with hc
  injection hc with _ hc
  exact absurd hc (by decide)
theorem blk_typed {u : Value} {g t : Nat} {cs : Array Value} (hk : W.heap[g]? = some (.cells cs t (0, 0))) (ht : t ≠ 2) (hty : ∀ k, u.ownBlock = some k → ∃ cells, W.heap[k]? = some (.cells cells 2 (0, 0))) (hg : W.grownBy w1 u.ownBlock) : w1.heap[g]? = some (.cells cs t (0, 0)) :=
  blk_grown hk hg (fun he => by
    obtain ⟨cells, hc⟩ := hty g he.symm
    rw [hk] at hc
    injection hc with hc
    injection hc with _ hc
    exact ht hc)
theorem Two.grow9 (H : Two w0 gb h d y c v9 v10 xs ys W) (h16 : 7 ≤ w0.heap.size) (ho : Kd.R (Kd.int .i64) 2 w1 w0.heap.size (fun b => some b ≠ v10.ownBlock) v1 (xs ++ [p])) (hb : Below w0.heap.size w0 w1) (hg : W.grownBy w1 v9.ownBlock)
    (hat : v1.ownBlock = v9.ownBlock ∨ ∃ b, v1.ownBlock = some b ∧ W.heap.size ≤ b) : Two w0 gb h d y c v1 v10 (xs ++ [p]) ys w1 :=
  ⟨ho, Kd.R_mono (Kd.R_after (ok := fun _ => True) (Kd.R_mono H.r10 (fun _ hk => ⟨trivial, hk⟩)) hg hat) (fun _ hk => hk.2), H.st.grown h16 (Kd.R_typed H.r9) hg (Kd.R_base H.r9), blk_typed H.blk (by decide) (Kd.R_typed H.r9) hg, hb⟩
theorem Two.grow10 (H : Two w0 gb h d y c v9 v10 xs ys W) (h16 : 7 ≤ w0.heap.size) (ho : Kd.R (Kd.int .i64) 2 w1 w0.heap.size (fun b => some b ≠ v9.ownBlock) v1 (ys ++ [p])) (hb : Below w0.heap.size w0 w1) (hg : W.grownBy w1 v10.ownBlock)
    (hat : v1.ownBlock = v10.ownBlock ∨ ∃ b, v1.ownBlock = some b ∧ W.heap.size ≤ b) : Two w0 gb h d y c v9 v1 xs (ys ++ [p]) w1 :=
  ⟨Kd.R_mono (Kd.R_after (ok := fun _ => True) (Kd.R_mono H.r9 (fun _ hk => ⟨trivial, hk⟩)) hg hat) (fun _ hk => hk.2), ho, H.st.grown h16 (Kd.R_typed H.r10) hg (Kd.R_base H.r10), blk_typed H.blk (by decide) (Kd.R_typed H.r10) hg, hb⟩
/-- One number in a block of its own, made since base was w1's. -/
structure Lone (g : Nat) (p : Int) (v9 v10 : Value) (W : World) : Prop where
  blk : W.heap[g]? = some (.cells #[.int .i64 p] 2 (0, 0))
  n9 : some g ≠ v9.ownBlock
  n10 : some g ≠ v10.ownBlock
theorem Lone.alloc {v9 v10 : Value} (H : Lone g p v9 v10 W) (o : Obj) : Lone g p v9 v10 (W.alloc o) := ⟨blk_alloc H.blk o, H.n9, H.n10⟩
theorem Lone.drew {v9 v10 : Value} (H : Lone g p v9 v10 W) : Lone g p v9 v10 W.drew := ⟨H.blk, H.n9, H.n10⟩
theorem Lone.new (H : Two w0 gb h d y c v9 v10 xs ys W) (p : Int) : Lone W.heap.size p v9 v10 (W.alloc (.cells #[.int .i64 p] 2 (0, 0))) :=
  ⟨heap_alloc_new _ _, fun he => by have := Kd.R_lt H.r9 _ he.symm; omega, fun he => by have := Kd.R_lt H.r10 _ he.symm; omega⟩
theorem Lone.grow9 (H : Lone g p v9 v10 W) (hg : W.grownBy w1 v9.ownBlock) (hat : v1.ownBlock = v9.ownBlock ∨ ∃ b, v1.ownBlock = some b ∧ W.heap.size ≤ b) : Lone g p v1 v10 w1 :=
  ⟨blk_grown H.blk hg H.n9, fun he => by
    rcases hat with hat | ⟨b, hb, hle⟩
    · rw [hat] at he; exact H.n9 he
    · rw [hb] at he; injection he with he; have := blk_lt H.blk; omega, H.n10⟩
theorem Lone.grow10 (H : Lone g p v9 v10 W) (hg : W.grownBy w1 v10.ownBlock) (hat : v1.ownBlock = v10.ownBlock ∨ ∃ b, v1.ownBlock = some b ∧ W.heap.size ≤ b) : Lone g p v9 v1 w1 :=
  ⟨blk_grown H.blk hg H.n10, H.n9, fun he => by
    rcases hat with hat | ⟨b, hb, hle⟩
    · rw [hat] at he; exact H.n10 he
    · rw [hb] at he; injection he with he; have := blk_lt H.blk; omega⟩
theorem Lone.reads (H : Lone g p v9 v10 W) : ReadsRow (fun (x : Int) cs => cs = [.int .i64 x]) 1 W (some ⟨g, 0, none⟩) 1 [p] := by
  refine ⟨rfl, by simp, fun _ => ⟨_, rfl, fun i x hx => ?_⟩⟩
  have hi : i = 0 := by
    have := (List.getElem?_eq_some_iff.1 hx).1
    simp at this
    exact this
  subst hi
  obtain rfl : p = x := by simpa using hx
  refine ⟨[.int .i64 p], rfl, rfl, fun j u hj => ?_⟩
  have hj0 : j = 0 := by
    have := (List.getElem?_eq_some_iff.1 hj).1
    simp at this
    exact this
  subst hj0
  obtain rfl : Value.int .i64 p = u := by simpa using hj
  exact blk_cell H.blk 0
theorem sz1 {o : Obj} : W.heap.size + 1 = (W.alloc o).heap.size := (Array.size_push ..).symm
theorem Lone.new' (H : Two w0 gb h d y c v9 v10 xs ys W) {p : Int} (hg : g = W.heap.size) : Lone g p v9 v10 (W.alloc (.cells #[.int .i64 p] 2 (0, 0))) := by
  rw [hg]
  exact Lone.new H p
section
variable {ops : Array Oper} {o : Oper} {a : Act} {Q : Exit → Act → World → Prop} {Kc : Act → World → Prop}
theorem Two.step9 (H : Two w0 gb h d y c v9 v10 xs ys W) (HL : Lone g p v9 v10 W) (h16 : 7 ≤ w0.heap.size) (s x : Operand) (hw : Region.wanted o (yielded ops a.tmps) = true)
    (ho : o.op = .call { callee := .builtin .append, args := #[s, x], argTypes := #[78, 78] }) (hs : a.eval s = v9) (hx : a.eval x = .slice (some ⟨g, 0, none⟩) 1 1) (hl : xs.length ≤ 1048576)
    (hk : ∀ v1 w1, Two w0 gb h d y c v1 v10 (xs ++ [p]) ys w1 → (∀ g q, Lone g q v9 v10 W → Lone g q v1 v10 w1) → Kc (a.put o.dst v1) w1) :
    if Region.wanted o (yielded ops a.tmps) = true then Oper.wp Tryz.prog o a W Kc Q else Kc (a.put o.dst undef) W := by
  refine Kd.R_append_rows_step (Kd.int .i64) (Rr := fun (x : Int) cs => cs = [.int .i64 x]) (w0 := w0) w0.heap.size hw s x 78 2 (.int .i64 0) 8 ho Tryz.underlying78 info_i64 rfl (by decide) (by decide)
    v9 xs [p] (some ⟨g, 0, none⟩) 1 1 (fun b => some b ≠ v10.ownBlock) (fun _ => False) hs hx H.r9 HL.reads (fun x cs e => e) (fun _ hk => hk.elim) (Kd.fresh' (Kd.R_lt H.r10)) H.bel H.st.sh.base_le (by omega) ?_
  intro v1 w1 ho1 hb hg hat
  exact hk v1 w1 (H.grow9 h16 ho1 hb hg hat) (fun g q HL => HL.grow9 hg hat)
theorem Two.step10 (H : Two w0 gb h d y c v9 v10 xs ys W) (HL : Lone g p v9 v10 W) (h16 : 7 ≤ w0.heap.size) (s x : Operand) (hw : Region.wanted o (yielded ops a.tmps) = true)
    (ho : o.op = .call { callee := .builtin .append, args := #[s, x], argTypes := #[78, 78] }) (hs : a.eval s = v10) (hx : a.eval x = .slice (some ⟨g, 0, none⟩) 1 1) (hl : ys.length ≤ 1048576)
    (hk : ∀ v1 w1, Two w0 gb h d y c v9 v1 xs (ys ++ [p]) w1 → (∀ g q, Lone g q v9 v10 W → Lone g q v9 v1 w1) → Kc (a.put o.dst v1) w1) :
    if Region.wanted o (yielded ops a.tmps) = true then Oper.wp Tryz.prog o a W Kc Q else Kc (a.put o.dst undef) W := by
  refine Kd.R_append_rows_step (Kd.int .i64) (Rr := fun (x : Int) cs => cs = [.int .i64 x]) (w0 := w0) w0.heap.size hw s x 78 2 (.int .i64 0) 8 ho Tryz.underlying78 info_i64 rfl (by decide) (by decide)
    v10 ys [p] (some ⟨g, 0, none⟩) 1 1 (fun b => some b ≠ v9.ownBlock) (fun _ => False) hs hx H.r10 HL.reads (fun x cs e => e) (fun _ hk => hk.elim) (Kd.fresh' (Kd.R_lt H.r9)) H.bel H.st.sh.base_le (by omega) ?_
  intro v1 w1 ho1 hb hg hat
  exact hk v1 w1 (H.grow10 h16 ho1 hb hg hat) (fun g q HL => HL.grow10 hg hat)
end
theorem Two.at1 (H : Two w0 gb h d y c v9 v10 xs ys W) : W.cell? ⟨gb, 1, none⟩ = some (.int .i64 c.f1) ∧ W.cell? ⟨gb, 2, none⟩ = some (.int .i64 c.f2) := ⟨blk_cell H.blk 1, blk_cell H.blk 2⟩
/-- Both rows stand while their totals are asked. -/
structure Tot (w0 : World) (h : Nat) (d y : Int) (v9 v10 : Value) (xs ys : List Int) (W : World) : Prop where
  r9 : Kd.R (Kd.int .i64) 2 W w0.heap.size (fun _ => True) v9 xs
  r10 : Kd.R (Kd.int .i64) 2 W w0.heap.size (fun _ => True) v10 ys
  st : St W w0.heap.size w0.heap.size h d y []
  bel : Below w0.heap.size w0 W
theorem Tot.at0 (H : Tot w0 h d y v9 v10 xs ys W) : W.cell? ⟨h, 0, none⟩ = some (.pointer (some ⟨w0.heap.size, 0, none⟩)) := blk_cell H.st.box 0
theorem Tot.drew (H : Tot w0 h d y v9 v10 xs ys W) : Tot w0 h d y v9 v10 xs ys W.drew := ⟨Kd.R_drew H.r9, Kd.R_drew H.r10, H.st.below (below_drew (Below.refl _ _)), below_step H.bel (below_drew (Below.refl _ _))⟩
theorem Tot.next {y' : Int} (H : Tot w0 h d y v9 v10 xs ys W) (h16 : 7 ≤ w0.heap.size) (hs : Sh w1 w0.heap.size w0.heap.size d y' []) (hk : KT W w1) (hb : Below w0.heap.size W w1) : Tot w0 h d y' v9 v10 xs ys w1 :=
  ⟨hk.kd H.r9 (by decide), hk.kd H.r10 (by decide), H.st.step h16 hs hk hb, H.bel.trans hb⟩
theorem Tot.total9 {A : Option Addr} {n cp : Nat} (H : Tot w0 h d y (.slice A n cp) v10 xs ys W) (h16 : 7 ≤ w0.heap.size) {v e : Int} (hm : L_Sum.f xs = some (v, e)) :
    Calls Tryz.prog 40 #[.pointer (some ⟨w0.heap.size, 0, none⟩), .slice A n cp] W fun en w' => en = .returned (.int .i64 v) ∧ Tot w0 h d (after y e 11) (.slice A n cp) v10 xs ys w' := by
  obtain ⟨rfl, hc, hC⟩ := Kd.R_reads' H.r9
  refine (H.st.sh.total hC hc hm).mono ?_
  rintro en w' ⟨rfl, hs, hk, hb⟩
  exact ⟨rfl, H.next h16 hs hk hb⟩
theorem Tot.total10 {A : Option Addr} {n cp : Nat} (H : Tot w0 h d y v9 (.slice A n cp) xs ys W) (h16 : 7 ≤ w0.heap.size) {v e : Int} (hm : L_Sum.f ys = some (v, e)) :
    Calls Tryz.prog 40 #[.pointer (some ⟨w0.heap.size, 0, none⟩), .slice A n cp] W fun en w' => en = .returned (.int .i64 v) ∧ Tot w0 h d (after y e 11) v9 (.slice A n cp) xs ys w' := by
  obtain ⟨rfl, hc, hC⟩ := Kd.R_reads' H.r10
  refine (H.st.sh.total hC hc hm).mono ?_
  rintro en w' ⟨rfl, hs, hk, hb⟩
  exact ⟨rfl, H.next h16 hs hk hb⟩
/-- A row of three texts, just built. -/
theorem lit3 (W : World) (hb : base ≤ W.heap.size) (x y z : ByteArray) :
    Kd.R Kd.string 9 (W.alloc (.cells #[.string x, .string y, .string z] 9 (0, 0))) base (fun _ => True) (.slice (some ⟨W.heap.size, 0, none⟩) 3 3) [x, y, z] := by
  refine ⟨fun _ _ => trivial, [.string x, .string y, .string z], ?_, ?_⟩
  · have h2 := World.ownsRow_lit (base := base) (e := 9) (size := 1) W #[.string x, .string y, .string z] 3 hb (by simp [maxLen]) (by simp)
    exact (by simpa using h2 : (W.alloc (.cells #[.string x, .string y, .string z] 9 (0, 0))).ownsRow base 9 1 (.slice (some ⟨W.heap.size, 0, none⟩) 3 3) 3 [.string x, .string y, .string z])
  · exact Reps.one (show Kd.M Kd.string _ _ _ x [.string x] from rfl) (Reps.one (show Kd.M Kd.string _ _ _ y [.string y] from rfl) (Reps.one (show Kd.M Kd.string _ _ _ z [.string z] from rfl) (Reps.none _ _)))
theorem St.row (H : St W base g h d y rows) (h16 : 7 ≤ base) {A : Option Addr} {n cp : Nat} {r : List ByteArray} (hr : Kd.R Kd.string 9 W base (fun _ => True) (.slice A n cp) r) (hl : rows.length < 5864062014805) :
    Calls Tryz.prog 43 #[.pointer (some ⟨g, 0, none⟩), .slice A n cp] W fun en w' =>
      en = .returned (.tuple #[]) ∧ St w' base g h d y (rows ++ [r]) ∧ KT W w' ∧ Below base W w' := by
  refine (H.sh.row hr hl).mono ?_
  rintro en w' ⟨rfl, hs, hk, hb⟩
  exact ⟨rfl, H.step h16 hs hk hb, hk, hb⟩
/-- A round's own: the sheet, and the row that is at hand. -/
structure Rnd (w0 : World) (gb h : Nat) (d : Int) (c : Col) (rows : List (List ByteArray)) (W : World) : Prop where
  st : St W w0.heap.size w0.heap.size h d 0 rows
  blk : W.heap[gb]? = some (.cells #[.string c.f0, .int .i64 c.f1, .int .i64 c.f2] 31 (0, 0))
  bel : Below w0.heap.size w0 W
theorem Rnd.alloc (H : Rnd w0 gb h d c rows W) (o : Obj) : Rnd w0 gb h d c rows (W.alloc o) := ⟨H.st.below (below_alloc (Below.refl _ _) o), blk_alloc H.blk o, below_step H.bel (below_alloc (Below.refl _ _) o)⟩
theorem Rnd.drew (H : Rnd w0 gb h d c rows W) : Rnd w0 gb h d c rows W.drew := ⟨H.st.below (below_drew (Below.refl _ _)), H.blk, below_step H.bel (below_drew (Below.refl _ _))⟩
theorem Rnd.at4 (H : Rnd w0 gb h d c rows W) : W.cell? ⟨h, 0, none⟩ = some (.pointer (some ⟨w0.heap.size, 0, none⟩)) ∧ W.cell? ⟨gb, 0, none⟩ = some (.string c.f0) ∧ W.cell? ⟨gb, 1, none⟩ = some (.int .i64 c.f1) ∧ W.cell? ⟨gb, 2, none⟩ = some (.int .i64 c.f2) :=
  ⟨blk_cell H.st.box 0, blk_cell H.blk 0, blk_cell H.blk 1, blk_cell H.blk 2⟩
theorem Rnd.side (H : Rnd w0 gb h d c rows W) (h16 : 7 ≤ w0.heap.size) (hd0 : 0 ≤ d) (hd1 : d ≤ 6) (a : Int) (ha0 : 0 ≤ a) (ha1 : a ≤ 9223372036854775807) :
    Calls Tryz.prog 41 #[.int .i64 a, .pointer (some ⟨h, 0, none⟩)] W fun en w' => en = .returned (.string (sideText a d.toNat)) ∧ Rnd w0 gb h d c rows w' := by
  refine (side_calls H.st h16 hd0 hd1 a ha0 ha1).mono ?_
  rintro en w' ⟨rfl, hs, hk, hb⟩
  exact ⟨rfl, hs, hk.keep _ _ _ H.blk (by decide) (by decide), H.bel.trans hb⟩
theorem Rnd.row (H : Rnd w0 gb h d c rows W) (h16 : 7 ≤ w0.heap.size) (x y z : ByteArray) (hl : rows.length ≤ 1048577) :
    Calls Tryz.prog 43 #[.pointer (some ⟨w0.heap.size, 0, none⟩), .slice (some ⟨W.heap.size, 0, none⟩) 3 3] (W.alloc (.cells #[.string x, .string y, .string z] 9 (0, 0))) fun en w' =>
      en = .returned (.tuple #[]) ∧ Rnd w0 gb h d c (rows ++ [[x, y, z]]) w' := by
  refine ((H.alloc _).st.row h16 (lit3 W H.bel.size x y z) (by omega)).mono ?_
  rintro en w' ⟨rfl, hs, hk, hb⟩
  exact ⟨rfl, hs, hk.keep _ _ _ (H.alloc _).blk (by decide) (by decide), (H.alloc _).bel.trans hb⟩
/-- At the end: the sheet alone. -/
structure Fin3 (w0 : World) (h : Nat) (d : Int) (rows : List (List ByteArray)) (W : World) : Prop where
  st : St W w0.heap.size w0.heap.size h d 0 rows
  bel : Below w0.heap.size w0 W
theorem Fin3.alloc (H : Fin3 w0 h d rows W) (o : Obj) : Fin3 w0 h d rows (W.alloc o) := ⟨H.st.below (below_alloc (Below.refl _ _) o), below_step H.bel (below_alloc (Below.refl _ _) o)⟩
theorem Fin3.drew (H : Fin3 w0 h d rows W) : Fin3 w0 h d rows W.drew := ⟨H.st.below (below_drew (Below.refl _ _)), below_step H.bel (below_drew (Below.refl _ _))⟩
theorem Fin3.at0 (H : Fin3 w0 h d rows W) : W.cell? ⟨h, 0, none⟩ = some (.pointer (some ⟨w0.heap.size, 0, none⟩)) := blk_cell H.st.box 0
theorem Fin3.amount (H : Fin3 w0 h d rows W) (h16 : 7 ≤ w0.heap.size) {a : Int} {t : ByteArray} (hm : L_Print.f a d = some (t, 0)) :
    Calls Tryz.prog 42 #[.pointer (some ⟨w0.heap.size, 0, none⟩), .int .i64 a] W fun en w' => en = .returned (.string t) ∧ Fin3 w0 h d rows w' := by
  refine (H.st.sh.amount H.st.laid hm).mono ?_
  rintro en w' ⟨rfl, hs, hk, hb⟩
  exact ⟨rfl, H.st.step h16 (by simpa [after] using hs) hk hb, H.bel.trans hb⟩
theorem Fin3.row (H : Fin3 w0 h d rows W) (h16 : 7 ≤ w0.heap.size) (x y z : ByteArray) (hl : rows.length ≤ 1048577) :
    Calls Tryz.prog 43 #[.pointer (some ⟨w0.heap.size, 0, none⟩), .slice (some ⟨W.heap.size, 0, none⟩) 3 3] (W.alloc (.cells #[.string x, .string y, .string z] 9 (0, 0))) fun en w' =>
      en = .returned (.tuple #[]) ∧ Fin3 w0 h d (rows ++ [[x, y, z]]) w' := by
  refine ((H.alloc _).st.row h16 (lit3 W H.bel.size x y z) (by omega)).mono ?_
  rintro en w' ⟨rfl, hs, hk, hb⟩
  exact ⟨rfl, hs, (H.alloc _).bel.trans hb⟩
end Go.Proofs.YtmimninicegjcaaGreatDoor


/- Part of the proof of RowTables: Base, BaseM. -/
import Derived.Test.YtmimninicegjcaaGreatDoorProg
import Derived.WalkKit
import Derived.WalkSmall
import Derived.Deep.Draws
import Derived.Lib.ItoaMem
import Derived.Lib.LaidTab
import Derived.Test.YtmimninicegjcaaGreatDoorTbWWords
/- The package-level tables that functions of this seat read, as one premise on a world; it abides new memory. -/
namespace Go.Proofs.YtmimninicegjcaaGreatDoor
open Go.RowKit Go.Proofs.YtmimninicegjcaaGreatDoorW.PrintWords
theorem mk_size (z : Array UInt8) : (ByteArray.mk z).size = z.size := rfl
/-- What the tables hold: strconv's powers of ten; internal/bytealg.MaxLen some number. -/
structure Laid (w : World) : Prop where
  pow : Lib.TabIs Tryz.prog w "internal/strconv.uint64pow10" .u64 Lib.pow10Tab
  maxLen : ∃ m, w.cell? ⟨0, 0, none⟩ = some (.int .i64 m)
  low : 7 ≤ w.heap.size
theorem globPow : Tryz.prog.globalNamed "internal/strconv.uint64pow10" = some 1 := by kernel_rfl
theorem Laid.below {w W : World} (h : Laid w) (hb : Below w.heap.size w W) : Laid W :=
  ⟨var?_below hb globPow (by have := h.low; omega) h.pow, by
    obtain ⟨m, hm⟩ := h.maxLen
    exact ⟨m, (hb.cell (p := ⟨0, 0, none⟩) (by have := h.low; show 0 < _; omega)).trans hm⟩, Nat.le_trans h.low hb.size⟩
theorem Laid.drawn {w W : World} (h : Laid w) (hb : Drawn0 w W) : Laid W := h.below hb.below
theorem Laid.alloc {w : World} (h : Laid w) (o : Obj) : Laid (w.alloc o) := h.below (below_alloc (Below.refl _ _) o)
theorem Laid.drewN {w : World} (h : Laid w) (n : Nat) : Laid (w.drewN n) := h.below (pw_below_drewN (Below.refl _ _) n)
theorem Laid.drew {w : World} (h : Laid w) : Laid w.drew := h.below (below_drew (Below.refl _ _))
end Go.Proofs.YtmimninicegjcaaGreatDoor
/- The tables with the months' days. -/
namespace Go.Proofs.YtmimninicegjcaaGreatDoor
open Go.RowKit Go.Proofs.YtmimninicegjcaaGreatDoorW.PrintWords
def monthTab : List Int := [31, 28, 31, 30, 31, 30, 31, 31, 30, 31, 30, 31]
structure LaidM (w : World) : Prop where
  base : Laid w
  months : Lib.TabIs Tryz.prog w "daybook/day.monthDays" .i64 monthTab
theorem globMonths : Tryz.prog.globalNamed "daybook/day.monthDays" = some 2 := by kernel_rfl
theorem LaidM.below {w W : World} (h : LaidM w) (hb : Below w.heap.size w W) : LaidM W :=
  ⟨h.base.below hb, var?_below hb globMonths (by have := h.base.low; omega) h.months⟩
theorem LaidM.drawn {w W : World} (h : LaidM w) (hb : Drawn0 w W) : LaidM W := h.below hb.below
theorem LaidM.alloc {w : World} (h : LaidM w) (o : Obj) : LaidM (w.alloc o) := h.below (below_alloc (Below.refl _ _) o)
theorem LaidM.drewN {w : World} (h : LaidM w) (n : Nat) : LaidM (w.drewN n) := h.below (pw_below_drewN (Below.refl _ _) n)
theorem LaidM.drew {w : World} (h : LaidM w) : LaidM w.drew := h.below (below_drew (Below.refl _ _))
theorem LaidM.month {w : World} (h : LaidM w) (i : Nat) (hi : i < 12) : w.cell? ⟨2, i, none⟩ = some (.int .i64 (monthTab.getD i 0)) := by
  have := h.months.cell globMonths i (by simpa [monthTab] using hi)
  simpa [List.getD_eq_getElem?_getD] using this
end Go.Proofs.YtmimninicegjcaaGreatDoor

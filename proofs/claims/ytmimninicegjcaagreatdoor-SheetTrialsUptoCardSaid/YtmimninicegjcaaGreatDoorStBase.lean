/- The package-level tables that functions of this seat read, as one premise on a world; it abides new memory. -/
import Derived.Test.YtmimninicegjcaaGreatDoorProg
import Derived.WalkKit
import Derived.WalkSmall
import Derived.Deep.Draws
import Derived.Lib.ItoaMem
import Derived.Lib.LaidTab
import Derived.Test.YtmimninicegjcaaGreatDoorWWords
namespace Go.Proofs.YtmimninicegjcaaGreatDoor
open Go.RowKit Go.Proofs.YtmimninicegjcaaGreatDoorW.PrintWords
theorem mk_size (z : Array UInt8) : (ByteArray.mk z).size = z.size := rfl
/-- What the tables hold: strconv's powers of ten; internal/bytealg.MaxLen some number. -/
structure Laid (w : World) : Prop where
  pow : Lib.TabIs Tryz.prog w "internal/strconv.uint64pow10" .u64 Lib.pow10Tab
  maxLen : ∃ m, w.cell? ⟨0, 0, none⟩ = some (.int .i64 m)
  low : 7 ≤ w.heap.size
theorem globPow : Tryz.prog.globalNamed "internal/strconv.uint64pow10" = some 1 := by kernel_rfl
theorem Laid.below {w W : World} (h : Laid w) (hb : Below w.heap.size w W) : Laid W :=
  ⟨var?_below hb globPow (by have := h.low; omega) h.pow, by
    obtain ⟨m, hm⟩ := h.maxLen
    exact ⟨m, (hb.cell (p := ⟨0, 0, none⟩) (by have := h.low; show 0 < _; omega)).trans hm⟩, Nat.le_trans h.low hb.size⟩
theorem Laid.drawn {w W : World} (h : Laid w) (hb : Drawn0 w W) : Laid W := h.below hb.below
theorem Laid.alloc {w : World} (h : Laid w) (o : Obj) : Laid (w.alloc o) := h.below (below_alloc (Below.refl _ _) o)
theorem Laid.drewN {w : World} (h : Laid w) (n : Nat) : Laid (w.drewN n) := h.below (pw_below_drewN (Below.refl _ _) n)
theorem Laid.drew {w : World} (h : Laid w) : Laid w.drew := h.below (below_drew (Below.refl _ _))
end Go.Proofs.YtmimninicegjcaaGreatDoor

/- What the package-level variables hold in a world, and that new memory leaves it so. No condition. -/
import Derived.Test.YtaekcldkfkiekaaDoorShelf
import Derived.Test.YtaekcldkfkiekaaDoorXNum
import Derived.WalkSmall
namespace Go.Proofs.YtaekcldkfkiekaaDoor
open Go.RowKit

/-- what the program's variables hold, as far as its calls read them -/
structure GV (w : World) : Prop where
  shaped : w.ShapedOpen Tryd.prog
  err : ∃ ev, w.cell? ⟨2, 0, none⟩ = some ev ∧ (ev = .nilIface ∨ ∃ te pe, ev = .iface te pe)
  pow : Lib.TabIs Tryd.prog w "internal/strconv.uint64pow10" .u64 Lib.pow10Tab
  four : w.cell? ⟨5, 15, none⟩ = some (.int .u8 4)
  low : 8 ≤ w.heap.size

theorem GV.below {w w' : World} (h : GV w) (hb : Below w.heap.size w w') : GV w' := by
  have hl := h.low
  refine ⟨h.shaped.keptBut (hb.frame (fun _ => False)) (fun p hp => hp.elim), ?_, ?_, ?_, Nat.le_trans h.low hb.size⟩
  · obtain ⟨ev, h1, h2⟩ := h.err
    exact ⟨ev, (hb.cell (p := ⟨2, 0, none⟩) (by show 2 < w.heap.size; omega)).trans h1, h2⟩
  · exact var?_below (g := 0) hb (by kernel_rfl) (by omega) h.pow
  · exact (hb.cell (p := ⟨5, 15, none⟩) (by show 5 < w.heap.size; omega)).trans h.four

theorem GV.drewN {w : World} (h : GV w) (n : Nat) : GV (w.drewN n) := h.below (Go.Proofs.YtaekcldkfkiekaaDoorW.PrintWords.pw_below_drewN (Below.refl _ _) n)
end Go.Proofs.YtaekcldkfkiekaaDoor

import Derived.Test.YtdaneldckdjjoaaDoorProg
import Derived.Below
import Derived.Test.YtdaneldckdjjoaaDoorAA
import Derived.Lib.LaidTab
import Derived.Shelf.Spec.TrailingZeros
namespace Go.Proofs.YtdaneldckdjjoaaDoorT
open Go Go.RowKit
/-- The library's table of trailing zeros stands in its variable. -/
def TabIn (w : World) : Prop := Go.Proofs.TabAt 1 Go.Lib.deBruijn64tab w
theorem TabIn.below {w w1 : World} (h : TabIn w) (hb : Below w.heap.size w w1) : TabIn w1 := by
  intro j hj
  have h0 := h j hj
  rw [hb.cell (World.block_lt_of_cell? _ _ h0)]
  exact h0
theorem tabIn_of {R : Nat → Prop} {w : World} (h : Go.Proofs.YtdaneldckdjjoaaDoorA.TabP R w) : TabIn w := by
  intro j hj
  have hj' : j < 64 := hj
  exact (h (1, j, .int .u8 ((Go.Lib.deBruijn64tab.getD j 0 : Nat) : Int)) (List.mem_map.2 ⟨j, List.mem_range.2 hj', rfl⟩)).2
theorem tabP_of {w : World} (h : TabIn w) : Go.Proofs.YtdaneldckdjjoaaDoorA.TabP (fun b => b < w.heap.size) w := by
  intro p hp
  obtain ⟨j, hj, rfl⟩ := List.mem_map.1 hp
  have h0 := h j (List.mem_range.1 hj)
  exact ⟨World.block_lt_of_cell? _ _ h0, h0⟩
theorem gTab : Tryd.prog.globalNamed "math/bits.deBruijn64tab" = some 1 := by kernel_rfl
theorem tTab : (Tryd.prog.globals[1]?).map (·.type) = some 63 := by kernel_rfl
theorem TabIn.of {w : World} {cs : Array Value} (hv : w.var? Tryd.prog "math/bits.deBruijn64tab" = some cs) (hc : cs.toList = (Go.Lib.deBruijn64tab.map fun (x : Nat) => (x : Int)).map fun z => Value.int .u8 z) : TabIn w := by
  intro j hj
  have h0 := World.var?_cell gTab hv j
  rw [h0]
  have h1 : cs[j]? = cs.toList[j]? := by simp
  rw [h1, hc]
  simp [List.getD_eq_getElem?_getD, hj]
end Go.Proofs.YtdaneldckdjjoaaDoorT

/- The fixed example with which the statements begin: it is accepted. -/
import Derived.Test.YtnciccbgceomeaaDoorScan2
namespace Go.Proofs.YtnciccbgceomeaaDoor
open Go.RowKit

def awakeSrc : ByteArray := ⟨#[120, 39, 49, 32, 58, 61, 32, 34, 97, 92, 110, 34, 32, 35, 32, 98]⟩
def awakeToks : List Tok := [⟨1, ⟨#[120, 39, 49]⟩, 0, 0⟩, ⟨5, ⟨#[58, 61]⟩, 0, 4⟩, ⟨4, ⟨#[97, 10]⟩, 0, 7⟩, ⟨0, ⟨#[]⟩, 0, 16⟩]
theorem awake_scan : scanP awakeSrc = .ok awakeToks := by kernel_rfl

theorem awake_any (w : World) : Calls Tryd.prog 6 #[] w fun e w' => e = .returned (.bool true) ∧ Below w.heap.size w w' := by
  go_enter Tryd.func6, Tryd.ntmps6
  go_wp2_with fail
  refine (scan_any awakeSrc w (by decide)).mono ?_
  rintro e w1 hsc
  rw [awake_scan] at hsc
  obtain ⟨v, rfl, ho, hb⟩ := hsc
  have ho' : w1.ownsRow w.heap.size 35 4 v (3 + 1) (tokCells awakeToks) := ho
  obtain ⟨g, cap, rfl⟩ := owned_some ho'
  have hc : ∀ j, j < 16 → w1.cell? ⟨g, j, none⟩ = (tokCells awakeToks)[j]? := fun j hj => ho'.cellAt j hj
  have k4 : w1.cell? ⟨g, 4, none⟩ = some (.int .i64 5) := hc 4 (by decide)
  have k9 : w1.cell? ⟨g, 9, none⟩ = some (.string ⟨#[97, 10]⟩) := hc 9 (by decide)
  have k11 : w1.cell? ⟨g, 11, none⟩ = some (.int .i64 7) := hc 11 (by decide)
  have k15 : w1.cell? ⟨g, 15, none⟩ = some (.int .i64 16) := hc 15 (by decide)
  have hgl : g < w1.heap.size := (ho'.lt g rfl).2
  clear hc ho ho'
  go_wp2_with fail
  go_ret
  refine ⟨rfl, ?_⟩
  exact hb.alloc hb.size _

end Go.Proofs.YtnciccbgceomeaaDoor

/- A text turned into bytes of the call's own. -/
import Derived.Lib.ConvBytes
import Derived.Laws.AppendOwn
import Derived.Laws.BytesArg
import Derived.Test.YtlgpoapedgodoaaDoorRow
namespace Go.Proofs.YtlgpoapedgodoaaDoor
open Go.RowKit

theorem conv_s (w : World) (s : ByteArray) : ∃ (cap : Nat) (w5 : World), (convert 9 51 (.string s)).run Tryd.prog w = .ok (.slice (some ⟨w.heap.size, 0, none⟩) s.size cap) w5 ∧ s.size ≤ cap ∧
    (∀ j, j < s.size → w5.cell? ⟨w.heap.size, j, none⟩ = some (.int .u8 (s.data.toList.getD j 0).toNat)) ∧ (∀ j, j < s.size → w5.frozen? ⟨w.heap.size, j, none⟩ = false) ∧ Below w.heap.size w w5 ∧ w.heap.size < w5.heap.size := by
  refine ⟨_, _, Lib.run_convert_string_bytes w _ _ 5 s Tryd.underlying9 Tryd.underlying51 Tryd.underlying5, grownCap_ge _ _ _ _, fun j hj => Lib.bytesWorld_cell w _ s j hj, fun j hj => ?_, ?_, by rw [Lib.bytesWorld_size]; omega⟩
  · have h := Lib.bytesWorld_at_new w 5 s
    have hz : (Lib.bytesCells w 5 s).size = grownCap w s.size 0 5 := by
      have := grownCap_ge w s.size 0 5
      simp [Lib.bytesCells]
      have e : s.data.size = s.size := rfl
      omega
    have hc := grownCap_ge w s.size 0 5
    simp [World.frozen?, h]
    omega
  · refine ⟨rfl, rfl, rfl, by rw [Lib.bytesWorld_size]; omega, fun k hk => Lib.bytesWorld_at_old w _ s k hk⟩
end Go.Proofs.YtlgpoapedgodoaaDoor

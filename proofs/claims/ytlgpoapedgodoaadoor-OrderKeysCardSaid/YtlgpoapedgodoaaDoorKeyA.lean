/- strings.ReplaceAll at the escape of a key. -/
import Derived.Test.YtlgpoapedgodoaaDoorKeyLaw
import Derived.Test.YtlgpoapedgodoaaDoorBytes
namespace Go.Proofs.YtlgpoapedgodoaaDoor
open Go.RowKit

theorem esc_ok (t : ByteArray) (m : Int) (ht : t.size ≤ 4096) (w : World) (hm : w.cell? ⟨0, 0, none⟩ = some (.int .i64 m)) :
    Calls Tryd.prog 27 #[.string t, .string ⟨#[0]⟩, .string ⟨#[0, 255]⟩] w fun e w' => e = .returned (.string ⟨(escT t.data.toList).toArray⟩) ∧ Below w.heap.size w w' := by
  have hc := Lib.countB_mul_le ⟨#[0]⟩ (by decide) t.size t (Nat.le_refl _)
  have h := Tryd.strings_ReplaceAll t ⟨#[0]⟩ ⟨#[0, 255]⟩ m w (by omega) hm (by decide) (by
    have e1 : (⟨#[0]⟩ : ByteArray).size = 1 := rfl
    have e2 : (⟨#[0, 255]⟩ : ByteArray).size = 2 := rfl
    rw [e1] at hc
    rw [e2]
    omega)
  have e : Lib.replaceAll t.data.toList (⟨#[0]⟩ : ByteArray).data.toList (⟨#[0, 255]⟩ : ByteArray).data.toList = escT t.data.toList := replaceAll_esc _
  rw [e] at h
  exact h
end Go.Proofs.YtlgpoapedgodoaaDoor

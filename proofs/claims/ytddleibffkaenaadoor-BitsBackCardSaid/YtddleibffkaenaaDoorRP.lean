/- A record api.Parts as an argument of a row: opened and shut. -/
import Derived.Test.YtddleibffkaenaaDoorRB
import Derived.Lib.SmallJoins
namespace Go.Proofs.YtddleibffkaenaaDoor
open Go Go.ChangeShapes Go.WideShapes Go.RowKit Go.Joins GFl
variable {H : Type} {enc : TypeId × Value → H} {w : World} {base : Nat} {spare : Nat → Bool} {held : Bool}
def partsD (H : Type) (ng : Bool) (fr : Nat) (ex : Int) : DataW H := .agg [.lit (.bool ng), .lit (.int .u64 fr), .lit (.int .i64 ex)]
theorem open_parts {r : Reach} {b0 : Nat} {v : Value} {d : DataW H} {p : List MemPlace} (hv : Value.okWide Tryd.prog w r b0 25 v) (h : DataW.Trod enc Tryd.prog w base spare held 25 v d p) :
    ∃ (ng : Bool) (fr : Nat) (ex : Int), v = .agg #[.bool ng, .int .u64 fr, .int .i64 ex] ∧ d = partsD H ng fr ex ∧ p = [] ∧ fr < 18446744073709551616 ∧ -9223372036854775808 ≤ ex ∧ ex ≤ 9223372036854775807 := by
  obtain ⟨c0, c1, c2, y0, y1, y2, m, rfl, rfl, rfl, hy0, hy1, hy2⟩ := open_agg3 Tryd.underlying25 (by kernel_rfl) (by kernel_rfl) hv h
  obtain ⟨ng, e0, rfl⟩ := DataW.trod_bool Tryd.underlying4 hy0
  obtain ⟨fr, e1, rfl, wf⟩ := DataW.trod_int Tryd.underlying23 hy1
  obtain ⟨ex, e2, rfl, wx⟩ := DataW.trod_int Tryd.underlying3 hy2
  simp at e0 e1 e2
  subst e0 e1 e2
  have hf : 0 ≤ fr ∧ fr ≤ 18446744073709551615 := by simpa [Lit.wf, IntKind.min, IntKind.max, IntKind.signed, IntKind.bits] using wf
  obtain ⟨f, rfl⟩ := Int.eq_ofNat_of_zero_le hf.1
  have hx := i64_of wx
  exact ⟨ng, f, ex, rfl, rfl, rfl, by omega, hx.1, hx.2⟩
theorem shut_parts {ng : Bool} {fr : Nat} {ex : Int} (h : fr < 18446744073709551616 ∧ -9223372036854775808 ≤ ex ∧ ex ≤ 9223372036854775807) :
    DataW.Trod enc Tryd.prog w base spare held 25 (.agg #[.bool ng, .int .u64 fr, .int .i64 ex]) (partsD H ng fr ex) [] :=
  shut_agg3 (y0 := (.lit (.bool ng), [])) (y1 := (.lit (.int .u64 fr), [])) (y2 := (.lit (.int .i64 ex), [])) Tryd.underlying25 (by kernel_rfl) (by kernel_rfl)
    ⟨1, by simp [DataW.trod, Tryd.underlying4]⟩
    ⟨1, by simp [DataW.trod, Tryd.underlying23, Lit.wf, IntKind.min, IntKind.max, IntKind.signed, IntKind.bits]; omega⟩
    ⟨1, by simp [DataW.trod, Tryd.underlying3, Lit.wf, IntKind.min, IntKind.max, IntKind.signed, IntKind.bits]; omega⟩
end Go.Proofs.YtddleibffkaenaaDoor

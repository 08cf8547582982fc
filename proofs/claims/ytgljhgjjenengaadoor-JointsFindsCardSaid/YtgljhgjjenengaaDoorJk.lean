/- The keys of joints' maps. -/
import Derived.Test.YtgljhgjjenengaaDoorJm
namespace Go.Proofs.YtgljhgjjenengaaDoor
open Go Go.RowKit Go.Maps Go.WideMaps Go.WideShapes Go.WideElems
set_option maxRecDepth 100000

theorem jk_laidOut : laidOutB Tryd.prog = true := by kernel_rfl
theorem jk_wide : (match Tryd.prog.underlying 68 with | some (.array _ _) | some (.struct _) => true | _ => false) = true := by rw [Tryd.underlying68]
theorem jk_pts : Keyed Tryd.prog 68 := Keyed.of_law (deep_law_laid jk_laidOut (m := 2) (by omega) (of_decide_eq_true (by kernel_rfl)) (by kernel_rfl) jk_wide)
theorem jk_names : Keyed Tryd.prog 9 := string_keyed Tryd.underlying9
theorem jk_zero (w : World) : (zeroValue 3).run Tryd.prog w = .ok (.int .i64 0) w := by kernel_rfl
theorem jk_cells : Tryd.prog.cellsOf 68 = 2 := by kernel_rfl
theorem jk_cells1 : Tryd.prog.cellsOf 21 = 1 := by kernel_rfl
theorem jk_key {x y : Int} (hx : (Lit.int .i32 x).wf = true) (hy : (Lit.int .i32 y).wf = true) : ∃ kl, keyOf Tryd.prog 68 (.agg #[.int .i32 x, .int .i32 y]) = some kl := by
  have hk : Tryd.prog.keyType 68 = true := by kernel_rfl
  obtain ⟨n, hn⟩ : ∃ n, Tryd.prog.types.size = n + 1 := ⟨Tryd.prog.types.size - 1, by
    have : 0 < Tryd.prog.types.size := of_decide_eq_true (by kernel_rfl)
    omega⟩
  unfold keyOf
  simp only [Tryd.underlying68, hk, Value.formed, jk_cells, hn]
  simp [Program.keyLits, Tryd.underlying68, Tryd.underlying21, jk_cells, jk_cells1, Value.cells, hx, hy, List.range_succ]
theorem jk_name {s : ByteArray} (hs : s.size ≤ maxLen) : ∃ kl, keyOf Tryd.prog 9 (.string s) = some kl := ⟨_, keyOf_string_mk Tryd.underlying9 hs⟩
end Go.Proofs.YtgljhgjjenengaaDoor

/- The keys of joints' maps. -/
import Derived.Test.YtgljhgjjenengaaGreatDoorJm
namespace Go.Proofs.YtgljhgjjenengaaGreatDoor
open Go Go.RowKit Go.Maps Go.WideMaps Go.WideShapes Go.WideElems
set_option maxRecDepth 100000

theorem jk_laidOut : laidOutB Tryz.prog = true := by kernel_rfl
theorem jk_wide : (match Tryz.prog.underlying 51 with | some (.array _ _) | some (.struct _) => true | _ => false) = true := by rw [Tryz.underlying51]
theorem jk_pts : Keyed Tryz.prog 51 := Keyed.of_law (deep_law_laid jk_laidOut (m := 2) (by omega) (of_decide_eq_true (by kernel_rfl)) (by kernel_rfl) jk_wide)
theorem jk_names : Keyed Tryz.prog 9 := string_keyed Tryz.underlying9
theorem jk_zero (w : World) : (zeroValue 3).run Tryz.prog w = .ok (.int .i64 0) w := by kernel_rfl
theorem jk_cells : Tryz.prog.cellsOf 51 = 2 := by kernel_rfl
theorem jk_cells1 : Tryz.prog.cellsOf 21 = 1 := by kernel_rfl
theorem jk_key {x y : Int} (hx : (Lit.int .i32 x).wf = true) (hy : (Lit.int .i32 y).wf = true) : ∃ kl, keyOf Tryz.prog 51 (.agg #[.int .i32 x, .int .i32 y]) = some kl := by
  have hk : Tryz.prog.keyType 51 = true := by kernel_rfl
  obtain ⟨n, hn⟩ : ∃ n, Tryz.prog.types.size = n + 1 := ⟨Tryz.prog.types.size - 1, by
    have : 0 < Tryz.prog.types.size := of_decide_eq_true (by kernel_rfl)
    omega⟩
  unfold keyOf
  simp only [Tryz.underlying51, hk, Value.formed, jk_cells, hn]
  simp [Program.keyLits, Tryz.underlying51, Tryz.underlying21, jk_cells, jk_cells1, Value.cells, hx, hy, List.range_succ]
theorem jk_name {s : ByteArray} (hs : s.size ≤ maxLen) : ∃ kl, keyOf Tryz.prog 9 (.string s) = some kl := ⟨_, keyOf_string_mk Tryz.underlying9 hs⟩
end Go.Proofs.YtgljhgjjenengaaGreatDoor

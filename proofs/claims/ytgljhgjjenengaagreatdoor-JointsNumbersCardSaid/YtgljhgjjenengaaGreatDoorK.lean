/- Words of memory: what has not turned below a block; a block that is known whole. -/
import Derived.Test.YtgljhgjjenengaaGreatDoorW
namespace Go.Proofs.YtgljhgjjenengaaGreatDoor
open Go Go.RowKit
theorem bl_alloc {w W : World} (h : Below w.heap.size w W) (o : Obj) : Below w.heap.size w (W.alloc o) := h.alloc h.size o
theorem bl_drewN {B : Nat} {w W : World} (h : Below B w W) (n : Nat) : Below B w (W.drewN n) := ⟨h.os, h.tape, h.output, h.size, h.block⟩
theorem bl_drew {B : Nat} {w W : World} (h : Below B w W) : Below B w W.drew := ⟨h.os, h.tape, h.output, h.size, h.block⟩
theorem bl_set {B : Nat} {w W : World} (h : Below B w W) {p : Addr} (v : Value) (hp : B ≤ p.block) : Below B w (W.setCell p v) := h.setCell hp v
theorem bl_then {w W W' : World} (h : Below w.heap.size w W) (h' : Below W.heap.size W W') : Below w.heap.size w W' := h.trans (h'.mono h.size)
theorem kb_new {w w1 : World} {o : Obj} (h : Below (w.alloc o).heap.size (w.alloc o) w1) : w1.heap[w.heap.size]? = some o := by
  have h1 : w.heap.size < (w.alloc o).heap.size := by
    show w.heap.size < (w.heap.push o).size
    rw [Array.size_push]; omega
  rw [h.block w.heap.size h1]
  show (w.heap.push o)[w.heap.size]? = some o
  exact Array.getElem?_push_size
theorem kb_keep {w w1 : World} {b : Nat} {o : Obj} (h : Below w.heap.size w w1) (hb : w.heap[b]? = some o) : w1.heap[b]? = some o := by
  rw [h.block b (Array.getElem?_eq_some_iff.1 hb).1]
  exact hb
theorem kb_alloc {w : World} {b : Nat} {o o' : Obj} (hb : w.heap[b]? = some o) : (w.alloc o').heap[b]? = some o := by
  have := (Array.getElem?_eq_some_iff.1 hb).1
  rw [Below.heap_alloc _ _ _ this]; exact hb
theorem kb_lt {w : World} {b : Nat} {o : Obj} (hb : w.heap[b]? = some o) : b < w.heap.size := (Array.getElem?_eq_some_iff.1 hb).1
theorem kb_cell {w : World} {b i : Nat} {c : Array Value} {t : TypeId} {fz : Nat × Nat} {v : Value} (hb : w.heap[b]? = some (.cells c t fz)) (hv : c[i]? = some v) : w.cell? ⟨b, i, none⟩ = some v := by
  simp [World.cell?, hb, hv]
theorem kb_frozen {w : World} {b : Nat} {c : Array Value} {t : TypeId} (hb : w.heap[b]? = some (.cells c t (0, 0))) (i : Nat) : w.frozen? ⟨b, i, none⟩ = false := by
  simp [World.frozen?, hb]
theorem run_store_float (P : Program) (w : World) (a : Addr) (m : Mode) (k : FloatKind) (b : Nat) : (store a (.float k b) m).run P w = stored P w a (.float k b) m := run_store P w a _ m rfl
end Go.Proofs.YtgljhgjjenengaaGreatDoor

/- girderlaw01.BitsTells answers true for any float. -/
import Derived.Test.YtddleibffkaenaaDoorB9
import Derived.Test.YtddleibffkaenaaDoorL01
namespace Go.Proofs.YtddleibffkaenaaDoor
open Go Go.RowKit GFl
set_option maxRecDepth 100000
attribute [local go_sem] run_f64bits run_f64frombits run_neg_f64

theorem blk_new {w w1 : World} {o : Obj} (h : Below (w.alloc o).heap.size (w.alloc o) w1) : w1.heap[w.heap.size]? = some o := by
  have h1 : w.heap.size < (w.alloc o).heap.size := by
    show w.heap.size < (w.heap.push o).size
    rw [Array.size_push]; omega
  rw [h.block w.heap.size h1]
  show (w.heap.push o)[w.heap.size]? = some o
  exact Array.getElem?_push_size
theorem blk_keep {w w1 : World} {b : Nat} {o : Obj} (h : Below w.heap.size w w1) (hb : w.heap[b]? = some o) : w1.heap[b]? = some o := by
  rw [h.block b (Array.getElem?_eq_some_iff.1 hb).1]
  exact hb
theorem blk_alloc {w : World} {b : Nat} {o o' : Obj} (hb : w.heap[b]? = some o) : (w.alloc o').heap[b]? = some o := by
  have := (Array.getElem?_eq_some_iff.1 hb).1
  rw [Below.heap_alloc _ _ _ this]; exact hb
theorem blk_lt {w : World} {b : Nat} {o : Obj} (hb : w.heap[b]? = some o) : b < w.heap.size := (Array.getElem?_eq_some_iff.1 hb).1
theorem blk_cell {w : World} {b i : Nat} {c : Array Value} {t : TypeId} {fz : Nat × Nat} {v : Value} (hb : w.heap[b]? = some (.cells c t fz)) (hv : c[i]? = some v) : w.cell? ⟨b, i, none⟩ = some v := by
  simp [World.cell?, hb, hv]

theorem nextF_w (x : Nat) (up : Bool) (hx : W64 x) : W64 (nextF x up) := by
  unfold nextF
  split
  · exact hx
  · unfold atW
    rename_i h
    have hb := plc_bd (Bool.eq_false_iff.2 h)
    have hn := nextP_bd (plc x) up hb.1 hb.2
    exact wd_w (by omega)
theorem sameF_refl (x : Nat) : sameF x x = true := by simp [sameF]
set_option maxHeartbeats 4000000 in
theorem bitsTells_c (x : Nat) (hx : W64 x) (w : World) (hT : Tab w) : Calls Tryd.prog 3 #[.float .f64 x] w fun e w' => e = .returned (.bool true) ∧ Below w.heap.size w w' := by
  go_enter Tryd.func3, Tryd.ntmps3
  go_wp2_with fail
  refine (split_any x hx _ hT).mono ?_
  rintro e w1 ⟨rfl, hb1⟩
  go_wp2_with fail
  refine (splitR_any x hx _).mono ?_
  rintro e w2 ⟨rfl, hb2⟩
  have p2' := blk_new hb2
  have hbb2 := bl_then (bl_alloc hb1 _) hb2
  clear hb2
  go_wp2_with (first | (go_at_call 12; refine (place_c _ hx _).mono ?_; rintro e w' ⟨rfl, rfl⟩) | (go_at_call 13; refine (placeR_c _ hx _).mono ?_; rintro e w' ⟨rfl, rfl⟩))
  refine (ulp_any x hx _).mono ?_
  rintro e w3 ⟨rfl, hu, _, hb3⟩
  have q3 := blk_new hb3
  have p3 := blk_keep hb3 (blk_alloc p2')
  have hbb3 := bl_then (bl_alloc hbb2 _) hb3
  clear hb3 p2' hbb2
  go_wp2_with fail
  refine (ulpR_any x hx _).mono ?_
  rintro e w4 ⟨rfl, _, _, hb4⟩
  have q4 := blk_keep hb4 q3
  have p4 := blk_keep hb4 p3
  have hbb4 := bl_then hbb3 hb4
  clear hb4 p3 q3 hbb3
  have cp0 := blk_cell (i := 0) p4 rfl
  have cp1 := blk_cell (i := 1) p4 rfl
  have cp2 := blk_cell (i := 2) p4 rfl
  have cq0 := blk_cell (i := 0) q4 rfl
  have cq1 := blk_cell (i := 1) q4 rfl
  have cq2 := blk_cell (i := 2) q4 rfl
  have hT4 := hT.below hbb4
  have BB := Lib.hid hbb4
  clear p4 q4 hbb4
  have sr := sameF_refl (ulpW x)
  go_wp2_with (first | (go_at_call 16; refine (sameFloat_c _ _ hu hu _).mono ?_; rw [sr]; rintro e w' ⟨rfl, rfl⟩) | (go_at_call 17; refine (kind_c _ hx _).mono ?_; rintro e w' ⟨rfl, rfl⟩) | (go_at_call 18; refine (kindR_c _ hx _).mono ?_; rintro e w' ⟨rfl, rfl⟩))
  have n1 := nextF_w x false hx
  have n2 := nextF_w x true hx
  have s1 := sameF_refl (nextF x false)
  have s2 := sameF_refl (nextF x true)
  refine wp_loop_rounds 3 ?_
  rw [rounds_succ]
  go_wp2_with (first | (go_at_call 19; refine (next_c _ _ hx _).mono ?_; rintro e w' ⟨rfl, rfl⟩) | (go_at_call 20; refine (nextR_c _ _ hx _).mono ?_; rintro e w' ⟨rfl, rfl⟩) | (go_at_call 16; refine (sameFloat_c _ _ n1 n1 _).mono ?_; rw [s1]; rintro e w' ⟨rfl, rfl⟩))
  rw [rounds_succ]
  go_wp2_with (first | (go_at_call 19; refine (next_c _ _ hx _).mono ?_; rintro e w' ⟨rfl, rfl⟩) | (go_at_call 20; refine (nextR_c _ _ hx _).mono ?_; rintro e w' ⟨rfl, rfl⟩) | (go_at_call 16; refine (sameFloat_c _ _ n2 n2 _).mono ?_; rw [s2]; rintro e w' ⟨rfl, rfl⟩))
  rw [rounds_succ]
  go_wp2_with fail
  refine (awake_c _ (hT4.below (bl_alloc (Below.refl _ _) _))).mono ?_
  rintro e wz ⟨rfl, hbz⟩
  go_wp2
  go_ret
  exact ⟨rfl, bl_then BB.out (bl_then (bl_alloc (Below.refl _ _) _) hbz)⟩
end Go.Proofs.YtddleibffkaenaaDoor

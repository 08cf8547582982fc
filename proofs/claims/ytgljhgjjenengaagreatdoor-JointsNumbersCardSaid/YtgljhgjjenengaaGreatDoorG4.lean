/- girderlaw18.JointsApart answers true for any two joints. -/
import Derived.Test.YtgljhgjjenengaaGreatDoorG3
namespace Go.Proofs.YtgljhgjjenengaaGreatDoor
open Go Go.RowKit GFl Ieee
set_option maxRecDepth 100000
attribute [local go_sem] run_f64bits run_f64frombits run_neg_f64 run_store_float

theorem jointsApart_c (s1 s2 : ByteArray) (x1 y1 x2 y2 f1 f2 : Int) (w : World) :
    Calls Tryz.prog 3 #[.agg #[.string s1, .int .i32 x1, .int .i32 y1, .int .u8 f1], .agg #[.string s2, .int .i32 x2, .int .i32 y2, .int .u8 f2]] w fun e w' => e = .returned (.bool true) ∧ Below w.heap.size w w' := by
  obtain ⟨n, hn, hlt⟩ := apI_nat x1 y1 x2 y2
  obtain ⟨x, F, hx, hF⟩ := sqrt_both hlt
  have hx0 : floatOfInt .f64 (apI x1 y1 x2 y2) = x := by rw [hn]; exact hx
  have ap := apart_c s1 s2 x1 y1 x2 y2 f1 f2
  have ga := g_apart_c s1 s2 x1 y1 x2 y2 f1 f2
  have ln := length_g s1 s2 x1 y1 x2 y2 f1 f2 (F 1) (F 2) (F 0) hx0 (fun w => (hF 1 (by omega) w).1) (fun w => (hF 2 (by omega) w).1) (fun w => (hF 0 (by omega) w).1)
  have gl := g_length_g s1 s2 x1 y1 x2 y2 f1 f2 (F 1) (F 2) (F 0) hx0 (fun w => (hF 1 (by omega) w).2) (fun w => (hF 2 (by omega) w).2) (fun w => (hF 0 (by omega) w).2)
  generalize F 0 = c at *
  generalize F 1 = a at *
  generalize F 2 = b at *
  clear hF hx0 hx hlt hn
  generalize apX x1 y1 x2 y2 = dx at *
  generalize apY x1 y1 x2 y2 = dy at *
  generalize apI x1 y1 x2 y2 = nn at *
  go_enter Tryz.func3, Tryz.ntmps3
  go_wp2_with (first
    | (go_at_call 5; refine (ap _).mono ?_; rintro e w1 ⟨rfl, hb1⟩
       have PA := Lib.hid (show w1.heap[w.heap.size]? = some (.cells #[.string s1, .int .i32 x1, .int .i32 y1, .int .u8 f1] 23 (0, 0)) from kb_keep hb1 (kb_alloc Array.getElem?_push_size))
       have PB := Lib.hid (show w1.heap[w.heap.size + 1]? = some (.cells #[.string s2, .int .i32 x2, .int .i32 y2, .int .u8 f2] 23 (0, 0)) by simpa using kb_new hb1)
       have BB := Lib.hid (bl_then (bl_alloc (bl_alloc (Below.refl _ _) _) _) hb1)
       have ca0 := kb_cell (i := 0) PA.out rfl; have ca1 := kb_cell (i := 1) PA.out rfl; have ca2 := kb_cell (i := 2) PA.out rfl; have ca3 := kb_cell (i := 3) PA.out rfl
       have cb0 := kb_cell (i := 0) PB.out rfl; have cb1 := kb_cell (i := 1) PB.out rfl; have cb2 := kb_cell (i := 2) PB.out rfl; have cb3 := kb_cell (i := 3) PB.out rfl
       clear hb1)
    | (go_at_call 6; refine (ga _).mono ?_; rintro e w2 ⟨rfl, hb2⟩
       replace PA := Lib.hid (kb_keep hb2 PA.out)
       replace PB := Lib.hid (kb_keep hb2 PB.out)
       replace BB := Lib.hid (bl_then BB.out hb2)
       clear ca0 ca1 ca2 ca3 cb0 cb1 cb2 cb3 hb2
       have ca0 := kb_cell (i := 0) PA.out rfl; have ca1 := kb_cell (i := 1) PA.out rfl; have ca2 := kb_cell (i := 2) PA.out rfl; have ca3 := kb_cell (i := 3) PA.out rfl
       have cb0 := kb_cell (i := 0) PB.out rfl; have cb1 := kb_cell (i := 1) PB.out rfl; have cb2 := kb_cell (i := 2) PB.out rfl; have cb3 := kb_cell (i := 3) PB.out rfl)
    | (go_at_call 7; refine (ln _).mono ?_; rintro e w3 ⟨rfl, hb3⟩
       replace PA := Lib.hid (kb_keep hb3 PA.out)
       replace PB := Lib.hid (kb_keep hb3 PB.out)
       replace BB := Lib.hid (bl_then BB.out hb3)
       clear ca0 ca1 ca2 ca3 cb0 cb1 cb2 cb3 hb3
       have ca0 := kb_cell (i := 0) PA.out rfl; have ca1 := kb_cell (i := 1) PA.out rfl; have ca2 := kb_cell (i := 2) PA.out rfl; have ca3 := kb_cell (i := 3) PA.out rfl
       have cb0 := kb_cell (i := 0) PB.out rfl; have cb1 := kb_cell (i := 1) PB.out rfl; have cb2 := kb_cell (i := 2) PB.out rfl; have cb3 := kb_cell (i := 3) PB.out rfl
       have hy := kb_lt PA.out
       have hz := kb_lt PB.out)
    | (go_at_call 8; refine (gl _).mono ?_; rintro e w4 ⟨rfl, hb4⟩
       have PS := Lib.hid (show w4.heap[w3.heap.size]? = some (.cells #[.float .f64 a, .float .f64 b] 28 (0, 0)) from kb_new hb4)
       replace BB := Lib.hid (bl_then (bl_alloc BB.out _) hb4)
       clear ca0 ca1 ca2 ca3 cb0 cb1 cb2 cb3 hb4 hy hz PA PB
       have d0 := kb_cell (i := 0) PS.out rfl; have d1 := kb_cell (i := 1) PS.out rfl
       have hx := kb_lt PS.out)
    | (go_at_call 9; refine (same_span_c a b _).mono ?_; rintro e w5 ⟨rfl, hb5⟩
       replace BB := Lib.hid (bl_then (bl_alloc BB.out _) hb5)
       clear hb5 d0 d1 hx PS)
    | (go_at_call 10; refine (same_float_c c _).mono ?_; rintro e w6 ⟨rfl, rfl⟩)
    | (go_at_call 11; refine (awake_c _).mono ?_; rintro e w7 ⟨rfl, hb7⟩
       replace BB := Lib.hid (bl_then BB.out hb7)))
  go_ret
  exact ⟨rfl, BB.out⟩
theorem jointsApart_r {W : World} (s1 : ByteArray) (x1 y1 f1 : Int) (s2 : ByteArray) (x2 y2 f2 : Int) :
    Calls Tryz.prog 3 #[.agg #[.string s1, .int .i32 x1, .int .i32 y1, .int .u8 f1], .agg #[.string s2, .int .i32 x2, .int .i32 y2, .int .u8 f2]] W fun e w' => e = .returned (.bool true) ∧ Below W.heap.size W w' :=
  jointsApart_c s1 s2 x1 y1 x2 y2 f1 f2 W
end Go.Proofs.YtgljhgjjenengaaGreatDoor

/- girderlaw01.BitsMakes answers true for any parts, any place. -/
import Derived.Test.YtddleibffkaenaaDoorLTells
namespace Go.Proofs.YtddleibffkaenaaDoor
open Go Go.RowKit GFl
set_option maxRecDepth 100000
attribute [local go_sem] run_f64bits run_f64frombits run_neg_f64

theorem atF_w {p : Int} : W64 (atF p) := by
  unfold atF
  split
  · rename_i h
    rw [atOk_eq] at h
    have h := of_decide_eq_true h
    unfold atW
    exact wd_w (by omega)
  · exact W64.mk (by decide)
set_option maxHeartbeats 4000000 in
theorem bitsMakes_c (ng : Bool) (fr : Nat) (ex p : Int) (hf : fr < 18446744073709551616) (he1 : -9223372036854775808 ≤ ex) (he2 : ex ≤ 9223372036854775807) (hp1 : -9223372036854775808 ≤ p) (hp2 : p ≤ 9223372036854775807) (w : World) (hT : Tab w) :
    Calls Tryd.prog 5 #[.agg #[.bool ng, .int .u64 fr, .int .i64 ex], .int .i64 p] w fun e w' => e = .returned (.bool true) ∧ Below w.heap.size w w' := by
  go_enter Tryd.func5, Tryd.ntmps5
  go_wp2_with fail
  refine (join_any ng fr ex hf he1 he2 _).mono ?_
  rintro e w1 ⟨rfl, hz, _, _, hb1⟩
  have p1 := blk_new hb1
  have hbb1 := bl_then (bl_alloc (Below.refl _ _) _) hb1
  clear hb1
  have cp0 := blk_cell (i := 0) p1 rfl
  have cp1 := blk_cell (i := 1) p1 rfl
  have cp2 := blk_cell (i := 2) p1 rfl
  clear p1
  go_wp2_with fail
  refine (joinR_any ng fr ex hf he1 he2 _).mono ?_
  rintro e w2 ⟨rfl, _, _, _, hb2⟩
  have hbb2 := bl_then hbb1 hb2
  have hT2 := hT.below hbb2
  have BB := Lib.hid hbb2
  clear hb2 hbb1 hbb2 cp0 cp1 cp2
  have s1 := sameF_refl (jnW ng fr ex)
  have s2 := sameF_refl (atF p)
  have aw := atF_w (p := p)
  go_wp2_with (first | (go_at_call 27; refine (at_c _ hp1 hp2 _).mono ?_; rintro e w' ⟨rfl, rfl⟩) | (go_at_call 28; refine (atR_c _ hp1 hp2 _).mono ?_; rintro e w' ⟨rfl, rfl⟩) | ((with_reducible refine (sameFloat_c (jnW ng fr ex) _ hz hz _).mono ?_); rw [s1]; rintro e w' ⟨rfl, rfl⟩) | ((with_reducible refine (sameFloat_c (atF p) _ aw aw _).mono ?_); rw [s2]; rintro e w' ⟨rfl, rfl⟩))
  refine (awake_c _ hT2).mono ?_
  rintro e wz ⟨rfl, hbz⟩
  go_wp2
  go_ret
  exact ⟨rfl, bl_then BB.out hbz⟩
end Go.Proofs.YtddleibffkaenaaDoor

/- What round's root answers of numbers of middling size. -/
import Derived.Test.YtgljhgjjenengaaGreatDoorR2
namespace Go.Proofs.YtgljhgjjenengaaGreatDoor
open Go Go.RowKit GFl Ieee
set_option maxRecDepth 100000
attribute [local go_sem] run_f64bits run_f64frombits run_neg_f64

theorem frow1 (x : Nat) (w : World) (t : TypeId) : FRow (w.alloc (.cells #[.float .f64 x] t)) w.heap.size [x] := by
  intro k hk
  have : k = 0 := by simpa using hk
  subst this
  exact kb_cell (w := w.alloc (.cells #[.float .f64 x] t)) Array.getElem?_push_size rfl
theorem rsqrt_c {x r t : Nat} (m : Int) (hx : W64 x) (h0 : 0 < plc x) (hf : fin x = true) (hp : plainF x = true) (hs : double.sqrt x = some r) (hr : W64 r) (hrn : rg r ≤ 9218868437227405312) (ht : double.fma (fneg r) r x = some t) (hw : W64 t) (w : World) :
    Calls Tryz.prog 15 #[.float .f64 x, .int .i8 m] w fun e w' => e = .returned (.float .f64 (settleW r (sgI t) (wayI m))) ∧ Below w.heap.size w w' := by
  have k1 : (FloatKind.f64.format.order x 0 == some .lt || FloatKind.f64.format.order x 0 == some .eq) = false := by
    rw [le0 hx, fin_isn hf]; simp; omega
  have D := run_fma64 ht
  have HF := Lib.hid hf
  have HP := Lib.hid hp
  have fn : ∀ (w : World) (b : Nat), b = w.heap.size → Calls Tryz.prog 22 #[.slice (some ⟨b, 0, none⟩) 1 1] (w.alloc (.cells #[.float .f64 x] 26)) fun e w' => e = .returned (.bool true) ∧ w.alloc (.cells #[.float .f64 x] 26) = w' := fun w b hb => hb ▸
    (finite_c _ [x] (by simp) (by simpa using hx) _ (frow1 x w _)).mono fun _ _ h => ⟨by rw [h.1]; simp [HF.out], h.2⟩
  have pl : ∀ (w : World) (b : Nat), b = w.heap.size → Calls Tryz.prog 23 #[.slice (some ⟨b, 0, none⟩) 1 1] (w.alloc (.cells #[.float .f64 x] 26)) fun e w' => e = .returned (.bool true) ∧ w.alloc (.cells #[.float .f64 x] 26) = w' := fun w b hb => hb ▸
    (plain_c _ [x] (by simp) (by simpa using hx) _ (frow1 x w _)).mono fun _ _ h => ⟨by rw [h.1]; simp [HP.out], h.2⟩
  clear hf hp h0
  go_enter Tryz.func15, Tryz.ntmps15
  go_wp2_with (first | (go_at_call 20; refine (way_c _ _).mono ?_; rintro e w' ⟨rfl, rfl⟩) | (go_at_call 21; refine (sqrt_c hs _).mono ?_; rintro e w' ⟨rfl, rfl⟩) | (go_at_call 22; refine (fn _ _ (by simp)).mono ?_; rintro e w' ⟨rfl, rfl⟩) | (go_at_call 23; refine (pl _ _ (by simp)).mono ?_; rintro e w' ⟨rfl, rfl⟩) | (go_at_call 25; refine (sign_c t hw _).mono ?_; rintro e w' ⟨rfl, rfl⟩) | (go_at_call 24; refine (settle_c r _ _ hr hrn _).mono ?_; rintro e w' ⟨rfl, rfl⟩))
  go_ret
  exact ⟨rfl, by repeat' (first | (with_reducible exact Below.refl _ _) | (with_reducible refine bl_alloc ?_ _) | (with_reducible refine bl_drewN ?_ _) | (with_reducible refine bl_drew ?_) | (with_reducible refine bl_set ?_ _ (by simp)))⟩
theorem rsqrt_z {x : Nat} (m : Int) (hx : W64 x) (h0 : plc x = 0) (hs : double.sqrt x = some x) (w : World) :
    Calls Tryz.prog 15 #[.float .f64 x, .int .i8 m] w fun e w' => e = .returned (.float .f64 x) ∧ Below w.heap.size w w' := by
  have hz := plc_zero.1 h0
  have hf : fin x = true := fin_t (by omega)
  have k1 : (FloatKind.f64.format.order x 0 == some .lt || FloatKind.f64.format.order x 0 == some .eq) = true := by
    rw [le0 hx, fin_isn hf]; simp; omega
  have HF := Lib.hid hf
  have fn : ∀ (w : World) (b : Nat), b = w.heap.size → Calls Tryz.prog 22 #[.slice (some ⟨b, 0, none⟩) 1 1] (w.alloc (.cells #[.float .f64 x] 26)) fun e w' => e = .returned (.bool true) ∧ w.alloc (.cells #[.float .f64 x] 26) = w' := fun w b hb => hb ▸
    (finite_c _ [x] (by simp) (by simpa using hx) _ (frow1 x w _)).mono fun _ _ h => ⟨by rw [h.1]; simp [HF.out], h.2⟩
  clear hf h0 hz
  go_enter Tryz.func15, Tryz.ntmps15
  go_wp2_with (first | (go_at_call 20; refine (way_c _ _).mono ?_; rintro e w' ⟨rfl, rfl⟩) | (go_at_call 21; refine (sqrt_c hs _).mono ?_; rintro e w' ⟨rfl, rfl⟩) | (go_at_call 22; refine (fn _ _ (by simp)).mono ?_; rintro e w' ⟨rfl, rfl⟩))
  go_ret
  exact ⟨rfl, by repeat' (first | (with_reducible exact Below.refl _ _) | (with_reducible refine bl_alloc ?_ _) | (with_reducible refine bl_drewN ?_ _) | (with_reducible refine bl_drew ?_) | (with_reducible refine bl_set ?_ _ (by simp)))⟩
end Go.Proofs.YtgljhgjjenengaaGreatDoor

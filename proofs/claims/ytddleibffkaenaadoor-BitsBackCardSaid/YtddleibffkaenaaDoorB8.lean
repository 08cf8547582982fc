/- What girderref01's Ulp answers. -/
import Derived.Test.YtddleibffkaenaaDoorB7
namespace Go.Proofs.YtddleibffkaenaaDoor
open Go Go.RowKit GFl
set_option maxRecDepth 100000
attribute [local go_sem] run_f64bits run_f64frombits run_neg_f64
theorem ulpR_no (x : Nat) (hx : W64 x) (h : 9218868437227405312 ≤ rg x) (w : World) : Calls Tryd.prog 15 #[.float .f64 x] w fun e w' => e = .returned (.tuple #[.float .f64 0, .bool false]) ∧ w' = w := by
  have hk : finF x = false := by unfold finF; simp; omega
  go_enter Tryd.func15, Tryd.ntmps15
  go_wp2_with (go_at_call 42; refine (finR_c _ hx _).mono ?_; rintro e w' ⟨rfl, rfl⟩)
  go_ret2
  exact ⟨rfl, rfl⟩
theorem ulp_join {x z : Nat} {e : Int} (he : e = (max (rg x / B52) 1 : Nat) - 1075) (h : IsJoin false 1 e z) : IsUlp x z :=
  ⟨h.w, h.s, h.f, by rw [h.m, Nat.one_mul]; congr 1; omega⟩
theorem ulp_ok {e : Int} (h1 : -1074 ≤ e) (h2 : e ≤ 971) : joinOk 1 e :=
  (joinOk_odd (n := 1) ⟨by decide, by decide +kernel, by decide +kernel⟩ (by decide)).2 ⟨by decide, h1, by omega⟩
theorem ulpR_yes (x : Nat) (hx : W64 x) (h : rg x < 9218868437227405312) (w : World) : Calls Tryd.prog 15 #[.float .f64 x] w (UlpPost x w) := by
  have hk : finF x = true := by unfold finF; simp; omega
  have hE : rg x / B52 ≤ 2046 := Nat.le_of_lt_succ (Nat.div_lt_of_lt_mul (by unfold B52; omega))
  obtain ⟨E, hEE⟩ : ∃ E, rg x / B52 = E := ⟨_, rfl⟩
  rw [hEE] at hE
  have HE := Lib.hid hEE
  clear hEE
  by_cases h1 : 1 < E
  all_goals
    go_enter Tryd.func15, Tryd.ntmps15
    go_wp2_with (first | (go_at_call 42; refine (finR_c _ hx _).mono ?_; rintro e w' ⟨rfl, rfl⟩) | (go_at_call 43; refine (fields_c _ hx _).mono ?_; rw [HE.out]; rintro e w' ⟨rfl, rfl⟩))
    refine (joinR_c false 1 _ (by decide) (by omega) (by omega) _).mono ?_
    rintro e w1 ⟨z, ok, rfl, h2, h3, _, hb⟩
    obtain rfl : ok = true := h2.2 (ulp_ok (by omega) (by omega))
    have hz : IsUlp x z := ulp_join (by rw [HE.out]; omega) (h3 rfl)
    clear h2 h3
    go_wp2
    go_ret2
    exact ⟨z, rfl, hz, bl_then (bl_alloc (Below.refl _ _) _) hb⟩
end Go.Proofs.YtddleibffkaenaaDoor

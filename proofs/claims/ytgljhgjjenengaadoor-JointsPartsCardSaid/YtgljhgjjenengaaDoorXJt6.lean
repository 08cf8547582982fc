-- PRINTED by print.py (a twelfth state) out of the translation. Not trusted: Lean checks it.
import Derived.Test.YtgljhgjjenengaaDoorXJt0
import Derived.Test.YtgljhgjjenengaaDoorXJt2
import Derived.Test.YtgljhgjjenengaaDoorXJt5
namespace Go.Proofs.YtgljhgjjenengaaDoor.XJt
open Go.RowKit Go.Proofs.YtgljhgjjenengaaDoorW.PrintWords Go.Proofs.YtgljhgjjenengaaDoorW.PrintLast Go.Proofs.YtgljhgjjenengaaDoorW.PrintMore
attribute [local go_sem] max2_int min2_int max_two min_two max_three min_three max_four min_four   -- for this text's walks alone
set_option linter.unusedVariables false
set_option linter.unusedSimpArgs false

/-! ### girderlaw18_JointsParts: function 5 -/
mutual
def girderlaw18_JointsParts.l0 : Nat → List (S33) → Int → Int → List (S33) → List (S33) → Int → Option (Bool)
  | 0, _, _, _, _, _, _ => none
  | k + 1, x0, x1, x2, x13, x14, x15 => if x15 < (x0.length : Int) then (if 0 ≤ x15 then ((joints_Find.f k x0 ((rd_T33 x0 x15).f0)).bind fun bt157 => (if bt157.2 = true then (girderlaw18_JointsParts.j2 k x0 x1 x2 x13 x14 x15 (bt157.1 != x15)) else (girderlaw18_JointsParts.j2 k x0 x1 x2 x13 x14 x15 true))) else (none)) else ((joints_Check.f x13).bind fun bt167 => ((joints_Check.f x14).bind fun bt169 => (if bt167.1 = 0 then (girderlaw18_JointsParts.j3 k x0 x2 (bt169.1 != 0)) else (girderlaw18_JointsParts.j3 k x0 x2 true))))
def girderlaw18_JointsParts.j2 : Nat → List (S33) → Int → Int → List (S33) → List (S33) → Int → Bool → Option (Bool)
  | 0, _, _, _, _, _, _, _ => none
  | k + 1, x0, x1, x2, x13, x14, x15, x108 => if x108 = true then (some false) else (if 0 ≤ (wrap64 ((wrap64 ((x0.length : Int) - 1)) - x15)) then (if (wrap64 ((wrap64 ((x0.length : Int) - 1)) - x15)) < (x0.length : Int) then (if x13.length < 4398046511104 then ((some (x13 ++ [(⟨(rd_T33 x0 (wrap64 ((wrap64 ((x0.length : Int) - 1)) - x15))).f0, (rd_T33 x0 (wrap64 ((wrap64 ((x0.length : Int) - 1)) - x15))).f1, (rd_T33 x0 (wrap64 ((wrap64 ((x0.length : Int) - 1)) - x15))).f2, (rd_T33 x0 (wrap64 ((wrap64 ((x0.length : Int) - 1)) - x15))).f3⟩ : S33)] : List (S33))).bind fun y160 => (if 0 ≤ (Int.tmod (IntKind.u64.wrap (x15)) 16) then (if (Go.bits .and .i64 (shr .i64 x1 (Int.tmod (IntKind.u64.wrap (x15)) 16)) 1) = 0 then (if 0 ≤ x15 then (if x15 < (x0.length : Int) then (if x14.length < 4398046511104 then (girderlaw18_JointsParts.l0 k x0 x1 x2 y160 (x14 ++ [(⟨(rd_T33 x0 x15).f0, (rd_T33 x0 x15).f1, (rd_T33 x0 x15).f2, (rd_T33 x0 x15).f3⟩ : S33)]) (wrap64 (x15 + 1))) else (none)) else (none)) else (none)) else (girderlaw18_JointsParts.l0 k x0 x1 x2 y160 x14 (wrap64 (x15 + 1)))) else (none))) else (none)) else (none)) else (none))
def girderlaw18_JointsParts.j3 : Nat → List (S33) → Int → Bool → Option (Bool)
  | 0, _, _, _ => none
  | k + 1, x0, x2, x149 => if x149 = true then (some false) else (if (x0.length : Int) = 0 then (girderlaw18_JointsParts.j4 k x0 x2 true) else (girderlaw18_JointsParts.j4 k x0 x2 ((x0.length : Int) == 16)))
def girderlaw18_JointsParts.j4 : Nat → List (S33) → Int → Bool → Option (Bool)
  | 0, _, _, _ => none
  | k + 1, x0, x2, x157 => if x157 = true then (some true) else ((girderkit_CopyJoints.f x0).bind fun t171 => ((girderkit_Pick.f x2 (x0.length : Int)).bind fun t174 => (if 0 ≤ t174 then (if t174 < (x0.length : Int) then (if t171.length < 4398046511104 then ((joints_Check.f (t171 ++ [(⟨(rd_T33 x0 t174).f0, (rd_T33 x0 t174).f1, (rd_T33 x0 t174).f2, (rd_T33 x0 t174).f3⟩ : S33)])).bind fun bt179 => (if bt179.1 = 280 then (some (bt179.2 == (x0.length : Int))) else (some false))) else (none)) else (none)) else (none))))
def girderlaw18_JointsParts.j0 : Nat → List (S33) → Int → Int → Bool → Option (Bool)
  | 0, _, _, _, _ => none
  | k + 1, x0, x7, x8, x50 => if x50 = true then (some false) else (if 0 ≤ x8 then (if x8 ≤ (x0.length : Int) then ((joints_Check.f (x0.take (x8 : Int).toNat)).bind fun bt148 => (if 0 ≤ (wrap64 (x8 + 1)) then (if (wrap64 (x8 + 1)) ≤ (x0.length : Int) then ((joints_Check.f (x0.take ((wrap64 (x8 + 1)) : Int).toNat)).bind fun bt154 => (if x7 = 280 then (if bt148.1 = 0 then (if bt148.2 = 0 then (if bt154.1 = x7 then (some (bt154.2 == x8)) else (some false)) else (some false)) else (some false)) else (some false))) else (none)) else (none))) else (none)) else (none))
end
def girderlaw18_JointsParts.f (k : Nat) (l0 : List (S33)) (a1 : Int) (a2 : Int) : Option (Bool) := (girderlaw18_awake.f).bind fun t141 => (if t141 = true then ((joints_Check.f l0).bind fun bt142 => (if bt142.1 = 0 then (girderlaw18_JointsParts.l0 k l0 a1 a2 ([] : List (S33)) ([] : List (S33)) 0) else (if bt142.1 = 3 then (if bt142.2 = 0 then (some (decide ((l0.length : Int) > 16))) else (some false)) else (if bt142.2 < 0 then (girderlaw18_JointsParts.j0 k l0 bt142.1 bt142.2 true) else (girderlaw18_JointsParts.j0 k l0 bt142.1 bt142.2 (decide (bt142.2 ≥ (l0.length : Int)))))))) else (some false))
theorem girderlaw18_JointsParts.mono_l : ∀ k, (∀ y0 y1 y2 y3 y4 y5, LeO (girderlaw18_JointsParts.l0 k y0 y1 y2 y3 y4 y5) (girderlaw18_JointsParts.l0 (k + 1) y0 y1 y2 y3 y4 y5)) ∧ (∀ y0 y1 y2 y3 y4 y5 y6, LeO (girderlaw18_JointsParts.j2 k y0 y1 y2 y3 y4 y5 y6) (girderlaw18_JointsParts.j2 (k + 1) y0 y1 y2 y3 y4 y5 y6)) ∧ (∀ y0 y1 y2, LeO (girderlaw18_JointsParts.j3 k y0 y1 y2) (girderlaw18_JointsParts.j3 (k + 1) y0 y1 y2)) ∧ (∀ y0 y1 y2, LeO (girderlaw18_JointsParts.j4 k y0 y1 y2) (girderlaw18_JointsParts.j4 (k + 1) y0 y1 y2)) ∧ (∀ y0 y1 y2 y3, LeO (girderlaw18_JointsParts.j0 k y0 y1 y2 y3) (girderlaw18_JointsParts.j0 (k + 1) y0 y1 y2 y3))
  | 0 => ⟨fun _ _ _ _ _ _ r h => by simp [girderlaw18_JointsParts.l0] at h, fun _ _ _ _ _ _ _ r h => by simp [girderlaw18_JointsParts.j2] at h, fun _ _ _ r h => by simp [girderlaw18_JointsParts.j3] at h, fun _ _ _ r h => by simp [girderlaw18_JointsParts.j4] at h, fun _ _ _ _ r h => by simp [girderlaw18_JointsParts.j0] at h⟩
  | k + 1 => by
    obtain ⟨ih0, ih1, ih2, ih3, ih4⟩ := girderlaw18_JointsParts.mono_l k
    refine ⟨?_, ?_, ?_, ?_, ?_⟩
    · intro y0 y1 y2 y3 y4 y5
      unfold girderlaw18_JointsParts.l0
      repeat' first
      | (with_reducible exact ih0 _ _ _ _ _ _)
      | (with_reducible exact ih1 _ _ _ _ _ _ _)
      | (with_reducible exact ih2 _ _ _)
      | (with_reducible exact ih3 _ _ _)
      | (with_reducible exact ih4 _ _ _ _)
      | (with_reducible exact joints_Find.mono _ _ _)
      | (with_reducible exact LeO.refl _)
      | (with_reducible exact LeO.none _)
      | (with_reducible refine LeO.ite ?_ ?_)
      | (with_reducible refine LeO.bind ?_ (fun _ => ?_))
      | exact ih0 _ _ _ _ _ _
      | exact ih1 _ _ _ _ _ _ _
      | exact ih2 _ _ _
      | exact ih3 _ _ _
      | exact ih4 _ _ _ _
      | exact joints_Find.mono _ _ _
      | exact LeO.none _
      | refine LeO.ite ?_ ?_
      | refine LeO.bind ?_ (fun _ => ?_)
    · intro y0 y1 y2 y3 y4 y5 y6
      unfold girderlaw18_JointsParts.j2
      repeat' first
      | (with_reducible exact ih0 _ _ _ _ _ _)
      | (with_reducible exact ih1 _ _ _ _ _ _ _)
      | (with_reducible exact ih2 _ _ _)
      | (with_reducible exact ih3 _ _ _)
      | (with_reducible exact ih4 _ _ _ _)
      | (with_reducible exact joints_Find.mono _ _ _)
      | (with_reducible exact LeO.refl _)
      | (with_reducible exact LeO.none _)
      | (with_reducible refine LeO.ite ?_ ?_)
      | (with_reducible refine LeO.bind ?_ (fun _ => ?_))
      | exact ih0 _ _ _ _ _ _
      | exact ih1 _ _ _ _ _ _ _
      | exact ih2 _ _ _
      | exact ih3 _ _ _
      | exact ih4 _ _ _ _
      | exact joints_Find.mono _ _ _
      | exact LeO.none _
      | refine LeO.ite ?_ ?_
      | refine LeO.bind ?_ (fun _ => ?_)
    · intro y0 y1 y2
      unfold girderlaw18_JointsParts.j3
      repeat' first
      | (with_reducible exact ih0 _ _ _ _ _ _)
      | (with_reducible exact ih1 _ _ _ _ _ _ _)
      | (with_reducible exact ih2 _ _ _)
      | (with_reducible exact ih3 _ _ _)
      | (with_reducible exact ih4 _ _ _ _)
      | (with_reducible exact joints_Find.mono _ _ _)
      | (with_reducible exact LeO.refl _)
      | (with_reducible exact LeO.none _)
      | (with_reducible refine LeO.ite ?_ ?_)
      | (with_reducible refine LeO.bind ?_ (fun _ => ?_))
      | exact ih0 _ _ _ _ _ _
      | exact ih1 _ _ _ _ _ _ _
      | exact ih2 _ _ _
      | exact ih3 _ _ _
      | exact ih4 _ _ _ _
      | exact joints_Find.mono _ _ _
      | exact LeO.none _
      | refine LeO.ite ?_ ?_
      | refine LeO.bind ?_ (fun _ => ?_)
    · intro y0 y1 y2
      unfold girderlaw18_JointsParts.j4
      repeat' first
      | (with_reducible exact ih0 _ _ _ _ _ _)
      | (with_reducible exact ih1 _ _ _ _ _ _ _)
      | (with_reducible exact ih2 _ _ _)
      | (with_reducible exact ih3 _ _ _)
      | (with_reducible exact ih4 _ _ _ _)
      | (with_reducible exact joints_Find.mono _ _ _)
      | (with_reducible exact LeO.refl _)
      | (with_reducible exact LeO.none _)
      | (with_reducible refine LeO.ite ?_ ?_)
      | (with_reducible refine LeO.bind ?_ (fun _ => ?_))
      | exact ih0 _ _ _ _ _ _
      | exact ih1 _ _ _ _ _ _ _
      | exact ih2 _ _ _
      | exact ih3 _ _ _
      | exact ih4 _ _ _ _
      | exact joints_Find.mono _ _ _
      | exact LeO.none _
      | refine LeO.ite ?_ ?_
      | refine LeO.bind ?_ (fun _ => ?_)
    · intro y0 y1 y2 y3
      unfold girderlaw18_JointsParts.j0
      repeat' first
      | (with_reducible exact ih0 _ _ _ _ _ _)
      | (with_reducible exact ih1 _ _ _ _ _ _ _)
      | (with_reducible exact ih2 _ _ _)
      | (with_reducible exact ih3 _ _ _)
      | (with_reducible exact ih4 _ _ _ _)
      | (with_reducible exact joints_Find.mono _ _ _)
      | (with_reducible exact LeO.refl _)
      | (with_reducible exact LeO.none _)
      | (with_reducible refine LeO.ite ?_ ?_)
      | (with_reducible refine LeO.bind ?_ (fun _ => ?_))
      | exact ih0 _ _ _ _ _ _
      | exact ih1 _ _ _ _ _ _ _
      | exact ih2 _ _ _
      | exact ih3 _ _ _
      | exact ih4 _ _ _ _
      | exact joints_Find.mono _ _ _
      | exact LeO.none _
      | refine LeO.ite ?_ ?_
      | refine LeO.bind ?_ (fun _ => ?_)
theorem girderlaw18_JointsParts.mono : ∀ a0 a1 a2 k, LeO (girderlaw18_JointsParts.f k a0 a1 a2) (girderlaw18_JointsParts.f (k + 1) a0 a1 a2) := by
  intro a0 a1 a2 k
  obtain ⟨ih0, ih1, ih2, ih3, ih4⟩ := girderlaw18_JointsParts.mono_l k
  unfold girderlaw18_JointsParts.f
  repeat' first
      | (with_reducible exact ih0 _ _ _ _ _ _)
      | (with_reducible exact ih1 _ _ _ _ _ _ _)
      | (with_reducible exact ih2 _ _ _)
      | (with_reducible exact ih3 _ _ _)
      | (with_reducible exact ih4 _ _ _ _)
      | (with_reducible exact joints_Find.mono _ _ _)
      | (with_reducible exact LeO.refl _)
      | (with_reducible exact LeO.none _)
      | (with_reducible refine LeO.ite ?_ ?_)
      | (with_reducible refine LeO.bind ?_ (fun _ => ?_))
      | exact ih0 _ _ _ _ _ _
      | exact ih1 _ _ _ _ _ _ _
      | exact ih2 _ _ _
      | exact ih3 _ _ _
      | exact ih4 _ _ _ _
      | exact joints_Find.mono _ _ _
      | exact LeO.none _
      | refine LeO.ite ?_ ?_
      | refine LeO.bind ?_ (fun _ => ?_)
set_option maxHeartbeats 8000000 in
set_option maxRecDepth 100000 in
theorem girderlaw18_JointsParts.calls (k : Nat) (A0 : Option Addr) (c0 : Nat) (l0 : List (S33)) (a1 : Int) (a2 : Int) (r : Bool) (w : World) (hr0 : Kd.C k33 w A0 l0.length l0) (hc0 : l0.length ≤ c0) (h : girderlaw18_JointsParts.f k l0 a1 a2 = some r) :
    Calls Tryd.prog 5 #[.slice A0 l0.length c0, .int .i64 a1, .int .i64 a2] w fun e w' => e = .returned (.bool r) ∧ Below w.heap.size w w' := by
  have hu33 := Tryd.underlying33
  have HR0 := Aside0.mk hr0
  have HC0 := Aside0.mk hc0
  clear hr0 hc0
  have HB := Aside0.mk (Below.refl w.heap.size w)
  have H : ((girderlaw18_awake.f).bind fun t141 => (if t141 = true then ((joints_Check.f l0).bind fun bt142 => (if bt142.1 = 0 then (girderlaw18_JointsParts.l0 k l0 a1 a2 ([] : List (S33)) ([] : List (S33)) 0) else (if bt142.1 = 3 then (if bt142.2 = 0 then (some (decide ((l0.length : Int) > 16))) else (some false)) else (if bt142.2 < 0 then (girderlaw18_JointsParts.j0 k l0 bt142.1 bt142.2 true) else (girderlaw18_JointsParts.j0 k l0 bt142.1 bt142.2 (decide (bt142.2 ≥ (l0.length : Int)))))))) else (some false))) = some r := h
  clear h
  replace H := Option.bind_eq_some_iff.mp H
  obtain ⟨t141, A40, H⟩ := H
  replace H : (if t141 = true then ((joints_Check.f l0).bind fun bt142 => (if bt142.1 = 0 then (girderlaw18_JointsParts.l0 k l0 a1 a2 ([] : List (S33)) ([] : List (S33)) 0) else (if bt142.1 = 3 then (if bt142.2 = 0 then (some (decide ((l0.length : Int) > 16))) else (some false)) else (if bt142.2 < 0 then (girderlaw18_JointsParts.j0 k l0 bt142.1 bt142.2 true) else (girderlaw18_JointsParts.j0 k l0 bt142.1 bt142.2 (decide (bt142.2 ≥ (l0.length : Int)))))))) else (some false)) = some r := H
  have A4 := Aside0.mk A40
  clear A40
  by_cases c5 : t141 = true
  · subst c5
    have H1 : ((joints_Check.f l0).bind fun bt142 => (if bt142.1 = 0 then (girderlaw18_JointsParts.l0 k l0 a1 a2 ([] : List (S33)) ([] : List (S33)) 0) else (if bt142.1 = 3 then (if bt142.2 = 0 then (some (decide ((l0.length : Int) > 16))) else (some false)) else (if bt142.2 < 0 then (girderlaw18_JointsParts.j0 k l0 bt142.1 bt142.2 true) else (girderlaw18_JointsParts.j0 k l0 bt142.1 bt142.2 (decide (bt142.2 ≥ (l0.length : Int)))))))) = some r := by rw [if_pos rfl] at H; exact H
    clear H
    have H := H1
    clear H1
    replace H := Option.bind_eq_some_iff.mp H
    obtain ⟨⟨t142, t143⟩, A60, H⟩ := H
    replace H : (if t142 = 0 then (girderlaw18_JointsParts.l0 k l0 a1 a2 ([] : List (S33)) ([] : List (S33)) 0) else (if t142 = 3 then (if t143 = 0 then (some (decide ((l0.length : Int) > 16))) else (some false)) else (if t143 < 0 then (girderlaw18_JointsParts.j0 k l0 t142 t143 true) else (girderlaw18_JointsParts.j0 k l0 t142 t143 (decide (t143 ≥ (l0.length : Int))))))) = some r := H
    have A6 := Aside0.mk A60
    clear A60
    by_cases c7 : t142 = 0
    · rw [if_pos c7] at H
      have c7b0 : (t142 == 0) = true := beq_iff_eq.mpr c7
      have c7b1 : (t142 != 0) = false := bne_eq_false_iff_eq.mpr c7
      clear c7
      have H' := Aside0.mk H
      clear H
      go_enter Tryd.func5, Tryd.ntmps5
      go_wp2_with (first | ((with_reducible refine gate_callee (f := 12) rfl ?_); refine goesL_ (some 25) rfl rfl Tryd.func12 (by kernel_rfl) rfl #[] rfl (by (try simp only [List.map_toArray, List.map_cons, List.map_nil]); first | done | rfl | (simp only [List.length_drop, List.length_take]; rfl)) ?_; (with_reducible refine (girderlaw18_awake.calls  true _ A4.out).mono ?_); rintro e w8 ⟨rfl, hb⟩; refine ⟨_, rfl, ?_⟩; have n0_ := Aside0.mk (below_step (by repeat (first | (with_reducible first | exact HB.out | apply below_alloc | apply pw_below_drewN | apply below_drew1) | exact HB.out)) hb); clear HB; have HB := n0_; clear n0_; (try clear hb); (try clear hb2); (try clear hk); (try clear hi)) | ((with_reducible refine gate_callee (f := 9) rfl ?_); refine goesL_ (some 29) rfl rfl Tryd.func9 (by kernel_rfl) rfl #[.slice A0 l0.length c0] rfl (by (try simp only [List.map_toArray, List.map_cons, List.map_nil]); first | done | rfl | (simp only [List.length_drop, List.length_take]; rfl)) ?_; (with_reducible refine (joints_Check.calls _ _ l0 t142 t143 _ ?side1 ?side2 A6.out).mono ?_); (case side1 => repeat (first | exact (Kd.C_below HR0.out HB.out) | (with_reducible refine Kd.C_alloc ?_ _) | (with_reducible refine Kd.C_drewN ?_ _) | (with_reducible refine Kd.C_drew ?_))); (case side2 => exact HC0.out); rintro e w9 ⟨rfl, hb⟩; refine ⟨_, rfl, ?_⟩; have n0_ := Aside0.mk (below_step (by repeat (first | (with_reducible first | exact HB.out | apply below_alloc | apply pw_below_drewN | apply below_drew1) | exact HB.out)) hb); clear HB; have HB := n0_; clear n0_; (try clear hb); (try clear hb2); (try clear hk); (try clear hi)))
      go_loopg [13, 14, 15] k (fun kq v13 v14 v15 w' => ∃ (x13_1 : List (S33)) (x14_1 : List (S33)) (x15_1 : Int), v15 = .int .i64 x15_1 ∧ Aside0 (girderlaw18_JointsParts.l0 kq l0 a1 a2 x13_1 x14_1 x15_1 = some r) ∧ Aside0 (kq ≤ k) ∧ Aside0 (Kd.R k33 33 w' w.heap.size (fun k_ => some k_ ≠ (v14 : Value).ownBlock) v13 x13_1) ∧ Aside0 (Kd.R k33 33 w' w.heap.size (fun k_ => some k_ ≠ (v13 : Value).ownBlock) v14 x14_1) ∧ Aside0 (Below w.heap.size w w'))
      case atStart => exact ⟨(([] : List (S33))), (([] : List (S33))), (0), (by first | rfl | (simp; done) | (simp [*]; done)), H', ⟨Nat.le_refl _⟩, ⟨by first | exact Kd.R_nil _ _ _ _ _ | exact Kd.N_nil _ _ _ _ _ | exact Kd.V_nil _ _ _ _ _ | exact Kd.Q_nil _ _ _ _ _ | exact Kd.S_nil _ _ _ _ _⟩, ⟨by first | exact Kd.R_nil _ _ _ _ _ | exact Kd.N_nil _ _ _ _ _ | exact Kd.V_nil _ _ _ _ _ | exact Kd.Q_nil _ _ _ _ _ | exact Kd.S_nil _ _ _ _ _⟩, ⟨by repeat (first | (with_reducible first | exact HB.out | apply below_alloc | apply pw_below_drewN | apply below_drew1) | exact HB.out)⟩⟩
      case round =>
        clear H'
        try clear c1
        try clear p2
        try clear c5
        try clear c7
        try clear c7b0
        try clear c7b1
        try clear c9
        obtain ⟨x13_1, x14_1, x15_1, rfl, HA, HK1, HO_13, HO_14, HB⟩ := hrel
        cases gk with
        | zero => exact absurd HA.out (by simp [girderlaw18_JointsParts.l0])
        | succ k1 =>
          have H := HA.out
          clear HA
          simp only [girderlaw18_JointsParts.l0] at H
          by_cases c10 : x15_1 < (l0.length : Int)
          · rw [if_pos c10] at H
            have c10b0 : decide (x15_1 < (l0.length : Int)) = true := decide_eq_true c10
            clear c10
            by_cases c11 : 0 ≤ x15_1
            · rw [if_pos c11] at H
              have c11b0 : decide (0 ≤ x15_1) = true := decide_eq_true c11
              clear c11
              replace H := Option.bind_eq_some_iff.mp H
              obtain ⟨⟨t157, t158⟩, A120, H⟩ := H
              replace H : (if t158 = true then (girderlaw18_JointsParts.j2 k1 l0 a1 a2 x13_1 x14_1 x15_1 (t157 != x15_1)) else (girderlaw18_JointsParts.j2 k1 l0 a1 a2 x13_1 x14_1 x15_1 true)) = some r := H
              have A12 := Aside0.mk A120
              clear A120
              have HC13 := Aside0.mk H
              clear H
              have p156 : 0 ≤ (x15_1 : Int) := of_decide_eq_true (by first | (with_reducible assumption) | assumption)
              have q156 : x15_1 < (l0.length : Int) := of_decide_eq_true (by first | (with_reducible assumption) | assumption)
              obtain ⟨ad156, e156, hx156_0, hx156_1, hx156_2, hx156_3⟩ := at_T33 HR0.out x15_1 p156 q156
              cases e156
              replace hx156_0 := (HB.out.cell (World.block_lt_of_cell? w _ hx156_0)).trans hx156_0
              replace hx156_1 := (HB.out.cell (World.block_lt_of_cell? w _ hx156_1)).trans hx156_1
              replace hx156_2 := (HB.out.cell (World.block_lt_of_cell? w _ hx156_2)).trans hx156_2
              replace hx156_3 := (HB.out.cell (World.block_lt_of_cell? w _ hx156_3)).trans hx156_3
              replace p156 := eq_true p156
              replace q156 := eq_true q156
              go_upto_region 17 with (first | ((with_reducible refine gate_callee (f := 13) rfl ?_); refine goesL_ (some 99) rfl rfl Tryd.func13 (by kernel_rfl) rfl #[.slice (some ad156) l0.length c0, .string ((rd_T33 l0 x15_1).f0)] rfl (by (try simp only [List.map_toArray, List.map_cons, List.map_nil]); first | done | rfl | (simp only [List.length_drop, List.length_take]; rfl)) ?_; (with_reducible refine (joints_Find.calls k1 _ _ l0 ((rd_T33 l0 x15_1).f0) t157 t158 _ ?side1 ?side2 A12.out).mono ?_); (case side1 => repeat (first | exact (Kd.C_below HR0.out HB.out) | (with_reducible refine Kd.C_alloc ?_ _) | (with_reducible refine Kd.C_drewN ?_ _) | (with_reducible refine Kd.C_drew ?_))); (case side2 => exact HC0.out); rintro e w' ⟨rfl, ⟨nd, rfl⟩⟩; refine ⟨_, rfl, ?_⟩))
              (try simp only [Act.put, List.setIfInBounds_toArray, List.set_cons_zero, List.set_cons_succ])
              go_cut [108] (fun v108 wc => ∃ (kq : Nat) (x108_12 : Bool), v108 = .bool x108_12 ∧ Aside0 (girderlaw18_JointsParts.j2 kq l0 a1 a2 x13_1 x14_1 x15_1 x108_12 = some r) ∧ Aside0 (kq ≤ k1) ∧ Aside0 (Kd.R k33 33 wc w.heap.size (fun k_ => some k_ ≠ (u14 : Value).ownBlock) u13 x13_1) ∧ Aside0 (Kd.R k33 33 wc w.heap.size (fun k_ => some k_ ≠ (u13 : Value).ownBlock) u14 x14_1) ∧ Aside0 (Below w.heap.size w wc))
              case first =>
                have H := HC13.out
                clear HC13
                by_cases c14 : t158 = true
                · subst c14
                  have H1 : (girderlaw18_JointsParts.j2 k1 l0 a1 a2 x13_1 x14_1 x15_1 (t157 != x15_1)) = some r := by rw [if_pos rfl] at H; exact H
                  clear H
                  have H := H1
                  clear H1
                  have H' := Aside0.mk H
                  clear H
                  go_wp2
                  go_meet
                  case rel => exact ⟨_, ((t157 != x15_1)), (by first | rfl | (simp; done) | (simp [*]; done)), H', ⟨by have := HK1.out; first | omega | exact Nat.le_refl _⟩, ⟨by (with_reducible repeat (first | apply Kd.R_alloc | apply Kd.R_drewN | apply Kd.R_drew)); exact HO_13.out⟩, ⟨by (with_reducible repeat (first | apply Kd.R_alloc | apply Kd.R_drewN | apply Kd.R_drew)); exact HO_14.out⟩, ⟨by repeat (first | (with_reducible first | exact HB.out | apply below_alloc | apply pw_below_drewN | apply below_drew1) | exact HB.out)⟩⟩
                · replace c14 := Bool.eq_false_iff.mpr c14
                  subst c14
                  have H1 : (girderlaw18_JointsParts.j2 k1 l0 a1 a2 x13_1 x14_1 x15_1 true) = some r := by rw [if_neg (show ¬ (false = true) by decide)] at H; exact H
                  clear H
                  have H := H1
                  clear H1
                  have H' := Aside0.mk H
                  clear H
                  go_wp2
                  go_meet
                  case rel => exact ⟨_, (true), (by first | rfl | (simp; done) | (simp [*]; done)), H', ⟨by have := HK1.out; first | omega | exact Nat.le_refl _⟩, ⟨by (with_reducible repeat (first | apply Kd.R_alloc | apply Kd.R_drewN | apply Kd.R_drew)); exact HO_13.out⟩, ⟨by (with_reducible repeat (first | apply Kd.R_alloc | apply Kd.R_drewN | apply Kd.R_drew)); exact HO_14.out⟩, ⟨by repeat (first | (with_reducible first | exact HB.out | apply below_alloc | apply pw_below_drewN | apply below_drew1) | exact HB.out)⟩⟩
              case rest =>
                clear HC13
                try clear c1
                try clear p1
                try clear q1
                try clear hx1
                try clear p2
                try clear c5
                try clear c7
                try clear c7b0
                try clear c7b1
                try clear c9
                try clear c10
                try clear c10b0
                try clear c11
                try clear c11b0
                try clear c12
                try clear c13
                try clear c14
                try clear hx156_0
                try clear hx156_1
                try clear hx156_2
                try clear hx156_3
                try clear p156
                try clear p2
                try clear q156
                obtain ⟨kq, x108_12, rfl, HA, HJ12, HO_13, HO_14, HB⟩ := hcut
                cases kq with
                | zero => exact absurd HA.out (by simp [girderlaw18_JointsParts.j2])
                | succ kj12 =>
                  have H := HA.out
                  clear HA
                  simp only [girderlaw18_JointsParts.j2] at H
                  by_cases c15 : x108_12 = true
                  · subst c15
                    have H1 : (some false) = some r := by rw [if_pos rfl] at H; exact H
                    clear H
                    have H := H1
                    clear H1
                    obtain rfl := Option.some.inj H
                    go_wp2
                    go_ret
                    exact ⟨by first | rfl | (simp [errW_none, errW_some] <;> rfl) | (simp [*, errW_none, errW_some] <;> rfl), by repeat (first | (with_reducible first | exact HB.out | apply below_alloc | apply pw_below_drewN | apply below_drew1) | exact HB.out)⟩
                  · replace c15 := Bool.eq_false_iff.mpr c15
                    subst c15
                    have H1 : (if 0 ≤ (wrap64 ((wrap64 ((l0.length : Int) - 1)) - x15_1)) then (if (wrap64 ((wrap64 ((l0.length : Int) - 1)) - x15_1)) < (l0.length : Int) then (if x13_1.length < 4398046511104 then ((some (x13_1 ++ [(⟨(rd_T33 l0 (wrap64 ((wrap64 ((l0.length : Int) - 1)) - x15_1))).f0, (rd_T33 l0 (wrap64 ((wrap64 ((l0.length : Int) - 1)) - x15_1))).f1, (rd_T33 l0 (wrap64 ((wrap64 ((l0.length : Int) - 1)) - x15_1))).f2, (rd_T33 l0 (wrap64 ((wrap64 ((l0.length : Int) - 1)) - x15_1))).f3⟩ : S33)] : List (S33))).bind fun y160 => (if 0 ≤ (Int.tmod (IntKind.u64.wrap (x15_1)) 16) then (if (Go.bits .and .i64 (shr .i64 a1 (Int.tmod (IntKind.u64.wrap (x15_1)) 16)) 1) = 0 then (if 0 ≤ x15_1 then (if x15_1 < (l0.length : Int) then (if x14_1.length < 4398046511104 then (girderlaw18_JointsParts.l0 kj12 l0 a1 a2 y160 (x14_1 ++ [(⟨(rd_T33 l0 x15_1).f0, (rd_T33 l0 x15_1).f1, (rd_T33 l0 x15_1).f2, (rd_T33 l0 x15_1).f3⟩ : S33)]) (wrap64 (x15_1 + 1))) else (none)) else (none)) else (none)) else (girderlaw18_JointsParts.l0 kj12 l0 a1 a2 y160 x14_1 (wrap64 (x15_1 + 1)))) else (none))) else (none)) else (none)) else (none)) = some r := by rw [if_neg (show ¬ (false = true) by decide)] at H; exact H
                    clear H
                    have H := H1
                    clear H1
                    obtain ⟨ji16, hji16⟩ : ∃ j_ : Int, (wrap64 ((wrap64 ((l0.length : Int) - 1)) - x15_1)) = j_ := ⟨_, rfl⟩
                    replace H : (if 0 ≤ (ji16) then (if (ji16) < (l0.length : Int) then (if x13_1.length < 4398046511104 then ((some (x13_1 ++ [(⟨(rd_T33 l0 (ji16)).f0, (rd_T33 l0 (ji16)).f1, (rd_T33 l0 (ji16)).f2, (rd_T33 l0 (ji16)).f3⟩ : S33)] : List (S33))).bind fun y160 => (if 0 ≤ (Int.tmod (IntKind.u64.wrap (x15_1)) 16) then (if (Go.bits .and .i64 (shr .i64 a1 (Int.tmod (IntKind.u64.wrap (x15_1)) 16)) 1) = 0 then (if 0 ≤ x15_1 then (if x15_1 < (l0.length : Int) then (if x14_1.length < 4398046511104 then (girderlaw18_JointsParts.l0 kj12 l0 a1 a2 y160 (x14_1 ++ [(⟨(rd_T33 l0 x15_1).f0, (rd_T33 l0 x15_1).f1, (rd_T33 l0 x15_1).f2, (rd_T33 l0 x15_1).f3⟩ : S33)]) (wrap64 (x15_1 + 1))) else (none)) else (none)) else (none)) else (girderlaw18_JointsParts.l0 kj12 l0 a1 a2 y160 x14_1 (wrap64 (x15_1 + 1)))) else (none))) else (none)) else (none)) else (none)) = some r := by first | (rw [hji16] at H; exact H) | (simp only [hji16] at H ⊢; exact H)
                    have hji16w : (IntKind.i64.wrap ((wrap64 ((l0.length : Int) - 1)) - x15_1)) = ji16 := (i64_w _).trans hji16
                    by_cases c17 : 0 ≤ (ji16)
                    · rw [if_pos c17] at H
                      have c17b0 : decide (0 ≤ (ji16)) = true := decide_eq_true c17
                      clear c17
                      by_cases c18 : (ji16) < (l0.length : Int)
                      · rw [if_pos c18] at H
                        have c18b0 : decide ((ji16) < (l0.length : Int)) = true := decide_eq_true c18
                        clear c18
                        by_cases c19 : x13_1.length < 4398046511104
                        · rw [if_pos c19] at H
                          have LMc19 := Aside0.mk c19
                          clear c19
                          obtain ⟨y160, hy160⟩ : ∃ y_ : List (S33), y_ = (x13_1 ++ [(⟨(rd_T33 l0 (ji16)).f0, (rd_T33 l0 (ji16)).f1, (rd_T33 l0 (ji16)).f2, (rd_T33 l0 (ji16)).f3⟩ : S33)]) := ⟨_, rfl⟩
                          replace H : (if 0 ≤ (Int.tmod (IntKind.u64.wrap (x15_1)) 16) then (if (Go.bits .and .i64 (shr .i64 a1 (Int.tmod (IntKind.u64.wrap (x15_1)) 16)) 1) = 0 then (if 0 ≤ x15_1 then (if x15_1 < (l0.length : Int) then (if x14_1.length < 4398046511104 then (girderlaw18_JointsParts.l0 kj12 l0 a1 a2 y160 (x14_1 ++ [(⟨(rd_T33 l0 x15_1).f0, (rd_T33 l0 x15_1).f1, (rd_T33 l0 x15_1).f2, (rd_T33 l0 x15_1).f3⟩ : S33)]) (wrap64 (x15_1 + 1))) else (none)) else (none)) else (none)) else (girderlaw18_JointsParts.l0 kj12 l0 a1 a2 y160 x14_1 (wrap64 (x15_1 + 1)))) else (none)) = some r := by first | (rw [hy160]; with_reducible exact H) | (have H2_ := (Option.bind_some _ _).symm.trans H; rw [hy160]; with_reducible exact H2_) | (have H2_ := (Option.bind_some _ _).symm.trans H; with_reducible exact H2_) | with_reducible exact H | (rw [hy160]; exact H) | exact H
                          have Ny160 := Aside0.mk hy160
                          clear hy160
                          obtain ⟨ji20, hji20⟩ : ∃ j_ : Int, (Int.tmod (IntKind.u64.wrap (x15_1)) 16) = j_ := ⟨_, rfl⟩
                          replace H : (if 0 ≤ (ji20) then (if (Go.bits .and .i64 (shr .i64 a1 (ji20)) 1) = 0 then (if 0 ≤ x15_1 then (if x15_1 < (l0.length : Int) then (if x14_1.length < 4398046511104 then (girderlaw18_JointsParts.l0 kj12 l0 a1 a2 y160 (x14_1 ++ [(⟨(rd_T33 l0 x15_1).f0, (rd_T33 l0 x15_1).f1, (rd_T33 l0 x15_1).f2, (rd_T33 l0 x15_1).f3⟩ : S33)]) (wrap64 (x15_1 + 1))) else (none)) else (none)) else (none)) else (girderlaw18_JointsParts.l0 kj12 l0 a1 a2 y160 x14_1 (wrap64 (x15_1 + 1)))) else (none)) = some r := by first | (rw [hji20] at H; exact H) | (simp only [hji20] at H ⊢; exact H)
                          by_cases c21 : 0 ≤ (ji20)
                          · rw [if_pos c21] at H
                            have c21b0 := eq_true c21
                            have c21b1 : decide (0 ≤ (ji20)) = true := decide_eq_true c21
                            clear c21
                            obtain ⟨ji22, hji22⟩ : ∃ j_ : Int, (shr .i64 a1 (ji20)) = j_ := ⟨_, rfl⟩
                            replace H : (if (Go.bits .and .i64 (ji22) 1) = 0 then (if 0 ≤ x15_1 then (if x15_1 < (l0.length : Int) then (if x14_1.length < 4398046511104 then (girderlaw18_JointsParts.l0 kj12 l0 a1 a2 y160 (x14_1 ++ [(⟨(rd_T33 l0 x15_1).f0, (rd_T33 l0 x15_1).f1, (rd_T33 l0 x15_1).f2, (rd_T33 l0 x15_1).f3⟩ : S33)]) (wrap64 (x15_1 + 1))) else (none)) else (none)) else (none)) else (girderlaw18_JointsParts.l0 kj12 l0 a1 a2 y160 x14_1 (wrap64 (x15_1 + 1)))) = some r := by first | (rw [hji22] at H; exact H) | (simp only [hji22] at H ⊢; exact H)
                            have hji22_ : (a1 / 2 ^ min (ji20).toNat 64) = ji22 := hji22
                            have hji22z : (ji20) ≤ 64 → (a1 / 2 ^ (ji20).toNat) = ji22 := shr_small hji22
                            by_cases c23 : (Go.bits .and .i64 (ji22) 1) = 0
                            · rw [if_pos c23] at H
                              have c23b0 : ((Go.bits .and .i64 (ji22) 1) == 0) = true := beq_iff_eq.mpr c23
                              have c23b1 : ((Go.bits .and .i64 (ji22) 1) != 0) = false := bne_eq_false_iff_eq.mpr c23
                              clear c23
                              by_cases c24 : 0 ≤ x15_1
                              · rw [if_pos c24] at H
                                have c24b0 : decide (0 ≤ x15_1) = true := decide_eq_true c24
                                clear c24
                                by_cases c25 : x15_1 < (l0.length : Int)
                                · rw [if_pos c25] at H
                                  have c25b0 : decide (x15_1 < (l0.length : Int)) = true := decide_eq_true c25
                                  clear c25
                                  by_cases c26 : x14_1.length < 4398046511104
                                  · rw [if_pos c26] at H
                                    have LMc26 := Aside0.mk c26
                                    clear c26
                                    obtain ⟨y164, hy164⟩ : ∃ y_ : List (S33), y_ = (x14_1 ++ [(⟨(rd_T33 l0 x15_1).f0, (rd_T33 l0 x15_1).f1, (rd_T33 l0 x15_1).f2, (rd_T33 l0 x15_1).f3⟩ : S33)]) := ⟨_, rfl⟩
                                    replace H : (girderlaw18_JointsParts.l0 kj12 l0 a1 a2 y160 y164 (wrap64 (x15_1 + 1))) = some r := by first | (rw [hy164]; with_reducible exact H) | (have H2_ := (Option.bind_some _ _).symm.trans H; rw [hy164]; with_reducible exact H2_) | (have H2_ := (Option.bind_some _ _).symm.trans H; with_reducible exact H2_) | with_reducible exact H | (rw [hy164]; exact H) | exact H
                                    have Ny164 := Aside0.mk hy164
                                    clear hy164
                                    have H' := Aside0.mk H
                                    clear H
                                    have p159 : 0 ≤ ((ji16) : Int) := of_decide_eq_true (by first | (with_reducible assumption) | assumption)
                                    have q159 : (ji16) < (l0.length : Int) := of_decide_eq_true (by first | (with_reducible assumption) | assumption)
                                    obtain ⟨ad159, e159, hx159_0, hx159_1, hx159_2, hx159_3⟩ := at_T33 HR0.out (ji16) p159 q159
                                    obtain rfl : ad156 = ad159 := (by injection e159)
                                    replace hx159_0 := (HB.out.cell (World.block_lt_of_cell? w _ hx159_0)).trans hx159_0
                                    replace hx159_1 := (HB.out.cell (World.block_lt_of_cell? w _ hx159_1)).trans hx159_1
                                    replace hx159_2 := (HB.out.cell (World.block_lt_of_cell? w _ hx159_2)).trans hx159_2
                                    replace hx159_3 := (HB.out.cell (World.block_lt_of_cell? w _ hx159_3)).trans hx159_3
                                    replace p159 := eq_true p159
                                    replace q159 := eq_true q159
                                    go_wp2_with (first | ((with_reducible refine gate_builtin (b := .append) (xs := #[.tmp 109, .tmp 118]) rfl ?_); (try (refine gate_guard (by rfl) ?_; dsimp only)); at_builtin; refine Kd.R_append k33 (w0 := w) w.heap.size rfl (.tmp 109) (.tmp 118) 22 33 (.agg #[(.string ⟨#[]⟩), (.int .i32 0), (.int .i32 0), (.int .u8 0)]) 32 rfl Tryd.underlying22 info33 rfl (by decide) (by omega) u13 x13_1 (⟨(rd_T33 l0 (ji16)).f0, (rd_T33 l0 (ji16)).f1, (rd_T33 l0 (ji16)).f2, (rd_T33 l0 (ji16)).f3⟩ : S33) [.string ((rd_T33 l0 (ji16)).f0), .int .i32 ((rd_T33 l0 (ji16)).f1), .int .i32 ((rd_T33 l0 (ji16)).f2), .int .u8 ((rd_T33 l0 (ji16)).f3)] (fun k_ => some k_ ≠ (u14 : Value).ownBlock) (fun _ => False) rfl rfl ?aP (fun _ hk => hk.elim) ?aF ?aO ?aB ?aS ?aL ?_; (case aP => exact k33_mkM _ _ _ (⟨(rd_T33 l0 (ji16)).f0, (rd_T33 l0 (ji16)).f1, (rd_T33 l0 (ji16)).f2, (rd_T33 l0 (ji16)).f3⟩ : S33)); (case aB => exact (by repeat (first | (with_reducible first | exact HB.out | apply below_alloc | apply pw_below_drewN | apply below_drew1) | exact HB.out))); (case aF => exact (fun k_ hk => Kd.fresh' (Kd.R_lt (by (with_reducible repeat (first | apply Kd.R_alloc | apply Kd.R_drewN | apply Kd.R_drew)); exact HO_14.out)) k_ hk)); (case aO => exact (by (with_reducible repeat (first | apply Kd.R_alloc | apply Kd.R_drewN | apply Kd.R_drew)); exact HO_13.out)); (case aS => exact (below_size (by repeat (first | (with_reducible first | exact HB.out | apply below_alloc | apply pw_below_drewN | apply below_drew1) | exact HB.out)))); (case aL => have := LMc19.out; omega); intro v161 w27 ho hb hg hat; rw [← Ny160.out] at ho; have n0_ := Aside0.mk (Kd.R_after (ok := (fun _ => True)) (by (with_reducible repeat (first | apply Kd.R_alloc | apply Kd.R_drewN | apply Kd.R_drew)); exact Kd.R_mono HO_14.out (fun _ hk => ⟨trivial, hk⟩)) hg hat); have n1_ := Aside0.mk (hb); have n2_ := Aside0.mk (ho); clear HO_14; clear HB; clear HO_13; have HO_14 := n0_; have HB := n1_; have HO162 := n2_; clear n0_ n1_ n2_; clear ho hb hg hat; have p163 : 0 ≤ (x15_1 : Int) := of_decide_eq_true (by first | (with_reducible assumption) | assumption); have q163 : x15_1 < (l0.length : Int) := of_decide_eq_true (by first | (with_reducible assumption) | assumption); obtain ⟨ad163, e163, hx163_0, hx163_1, hx163_2, hx163_3⟩ := at_T33 HR0.out x15_1 p163 q163; obtain rfl : ad156 = ad163 := (by injection e163); replace hx163_0 := (HB.out.cell (World.block_lt_of_cell? w _ hx163_0)).trans hx163_0; replace hx163_1 := (HB.out.cell (World.block_lt_of_cell? w _ hx163_1)).trans hx163_1; replace hx163_2 := (HB.out.cell (World.block_lt_of_cell? w _ hx163_2)).trans hx163_2; replace hx163_3 := (HB.out.cell (World.block_lt_of_cell? w _ hx163_3)).trans hx163_3; replace p163 := eq_true p163; replace q163 := eq_true q163) | ((with_reducible refine gate_builtin (b := .append) (xs := #[.tmp 127, .tmp 132]) rfl ?_); (try (refine gate_guard (by rfl) ?_; dsimp only)); at_builtin; refine Kd.R_append k33 (w0 := w) w.heap.size rfl (.tmp 127) (.tmp 132) 22 33 (.agg #[(.string ⟨#[]⟩), (.int .i32 0), (.int .i32 0), (.int .u8 0)]) 32 rfl Tryd.underlying22 info33 rfl (by decide) (by omega) u14 x14_1 (⟨(rd_T33 l0 x15_1).f0, (rd_T33 l0 x15_1).f1, (rd_T33 l0 x15_1).f2, (rd_T33 l0 x15_1).f3⟩ : S33) [.string ((rd_T33 l0 x15_1).f0), .int .i32 ((rd_T33 l0 x15_1).f1), .int .i32 ((rd_T33 l0 x15_1).f2), .int .u8 ((rd_T33 l0 x15_1).f3)] (fun k_ => some k_ ≠ (v161 : Value).ownBlock) (fun _ => False) rfl rfl ?aP (fun _ hk => hk.elim) ?aF ?aO ?aB ?aS ?aL ?_; (case aP => exact k33_mkM _ _ _ (⟨(rd_T33 l0 x15_1).f0, (rd_T33 l0 x15_1).f1, (rd_T33 l0 x15_1).f2, (rd_T33 l0 x15_1).f3⟩ : S33)); (case aB => exact (by repeat (first | (with_reducible first | exact HB.out | apply below_alloc | apply pw_below_drewN | apply below_drew1) | exact HB.out))); (case aF => exact (fun k_ hk => Kd.fresh' (Kd.R_lt (by (with_reducible repeat (first | apply Kd.R_alloc | apply Kd.R_drewN | apply Kd.R_drew)); exact HO162.out)) k_ hk)); (case aO => exact (by (with_reducible repeat (first | apply Kd.R_alloc | apply Kd.R_drewN | apply Kd.R_drew)); exact Kd.R_mono HO_14.out (fun _ hk => hk.2))); (case aS => exact (below_size (by repeat (first | (with_reducible first | exact HB.out | apply below_alloc | apply pw_below_drewN | apply below_drew1) | exact HB.out)))); (case aL => have := LMc26.out; omega); intro v165 w28 ho hb hg hat; rw [← Ny164.out] at ho; have n0_ := Aside0.mk (Kd.R_after (ok := (fun _ => True)) (by (with_reducible repeat (first | apply Kd.R_alloc | apply Kd.R_drewN | apply Kd.R_drew)); exact Kd.R_mono HO162.out (fun _ hk => ⟨trivial, hk⟩)) hg hat); have n1_ := Aside0.mk (hb); have n2_ := Aside0.mk (ho); clear HO162; clear HB; clear HO_14; have HO162 := n0_; have HB := n1_; have HO166 := n2_; clear n0_ n1_ n2_; clear ho hb hg hat))
                                    go_roundg kj12
                                    case measure => have := HK1.out; have := HJ12.out; omega
                                    case rel => exact ⟨(y160), (y164), (wrap64 (x15_1 + 1)), (by first | rfl | (simp; done) | (simp [*]; done)), H', ⟨by have := HK1.out; have := HJ12.out; omega⟩, ⟨by (with_reducible repeat (first | apply Kd.R_alloc | apply Kd.R_drewN | apply Kd.R_drew)); exact Kd.R_mono HO162.out (fun _ hk => hk.2)⟩, ⟨by (with_reducible repeat (first | apply Kd.R_alloc | apply Kd.R_drewN | apply Kd.R_drew)); exact HO166.out⟩, ⟨by repeat (first | (with_reducible first | exact HB.out | apply below_alloc | apply pw_below_drewN | apply below_drew1) | exact HB.out)⟩⟩
                                  · rw [if_neg c26] at H
                                    exact absurd H (by simp)
                                · rw [if_neg c25] at H
                                  exact absurd H (by simp)
                              · rw [if_neg c24] at H
                                exact absurd H (by simp)
                            · rw [if_neg c23] at H
                              have c23b0 : ((Go.bits .and .i64 (ji22) 1) == 0) = false := beq_eq_false_iff_ne.mpr c23
                              have c23b1 : ((Go.bits .and .i64 (ji22) 1) != 0) = true := bne_iff_ne.mpr c23
                              have H' := Aside0.mk H
                              clear H
                              have p159 : 0 ≤ ((ji16) : Int) := of_decide_eq_true (by first | (with_reducible assumption) | assumption)
                              have q159 : (ji16) < (l0.length : Int) := of_decide_eq_true (by first | (with_reducible assumption) | assumption)
                              obtain ⟨ad159, e159, hx159_0, hx159_1, hx159_2, hx159_3⟩ := at_T33 HR0.out (ji16) p159 q159
                              obtain rfl : ad156 = ad159 := (by injection e159)
                              replace hx159_0 := (HB.out.cell (World.block_lt_of_cell? w _ hx159_0)).trans hx159_0
                              replace hx159_1 := (HB.out.cell (World.block_lt_of_cell? w _ hx159_1)).trans hx159_1
                              replace hx159_2 := (HB.out.cell (World.block_lt_of_cell? w _ hx159_2)).trans hx159_2
                              replace hx159_3 := (HB.out.cell (World.block_lt_of_cell? w _ hx159_3)).trans hx159_3
                              replace p159 := eq_true p159
                              replace q159 := eq_true q159
                              go_wp2_with (first | ((with_reducible refine gate_builtin (b := .append) (xs := #[.tmp 109, .tmp 118]) rfl ?_); (try (refine gate_guard (by rfl) ?_; dsimp only)); at_builtin; refine Kd.R_append k33 (w0 := w) w.heap.size rfl (.tmp 109) (.tmp 118) 22 33 (.agg #[(.string ⟨#[]⟩), (.int .i32 0), (.int .i32 0), (.int .u8 0)]) 32 rfl Tryd.underlying22 info33 rfl (by decide) (by omega) u13 x13_1 (⟨(rd_T33 l0 (ji16)).f0, (rd_T33 l0 (ji16)).f1, (rd_T33 l0 (ji16)).f2, (rd_T33 l0 (ji16)).f3⟩ : S33) [.string ((rd_T33 l0 (ji16)).f0), .int .i32 ((rd_T33 l0 (ji16)).f1), .int .i32 ((rd_T33 l0 (ji16)).f2), .int .u8 ((rd_T33 l0 (ji16)).f3)] (fun k_ => some k_ ≠ (u14 : Value).ownBlock) (fun _ => False) rfl rfl ?aP (fun _ hk => hk.elim) ?aF ?aO ?aB ?aS ?aL ?_; (case aP => exact k33_mkM _ _ _ (⟨(rd_T33 l0 (ji16)).f0, (rd_T33 l0 (ji16)).f1, (rd_T33 l0 (ji16)).f2, (rd_T33 l0 (ji16)).f3⟩ : S33)); (case aB => exact (by repeat (first | (with_reducible first | exact HB.out | apply below_alloc | apply pw_below_drewN | apply below_drew1) | exact HB.out))); (case aF => exact (fun k_ hk => Kd.fresh' (Kd.R_lt (by (with_reducible repeat (first | apply Kd.R_alloc | apply Kd.R_drewN | apply Kd.R_drew)); exact HO_14.out)) k_ hk)); (case aO => exact (by (with_reducible repeat (first | apply Kd.R_alloc | apply Kd.R_drewN | apply Kd.R_drew)); exact HO_13.out)); (case aS => exact (below_size (by repeat (first | (with_reducible first | exact HB.out | apply below_alloc | apply pw_below_drewN | apply below_drew1) | exact HB.out)))); (case aL => have := LMc19.out; omega); intro v161 w29 ho hb hg hat; rw [← Ny160.out] at ho; have n0_ := Aside0.mk (Kd.R_after (ok := (fun _ => True)) (by (with_reducible repeat (first | apply Kd.R_alloc | apply Kd.R_drewN | apply Kd.R_drew)); exact Kd.R_mono HO_14.out (fun _ hk => ⟨trivial, hk⟩)) hg hat); have n1_ := Aside0.mk (hb); have n2_ := Aside0.mk (ho); clear HO_14; clear HB; clear HO_13; have HO_14 := n0_; have HB := n1_; have HO162 := n2_; clear n0_ n1_ n2_; clear ho hb hg hat))
                              go_roundg kj12
                              case measure => have := HK1.out; have := HJ12.out; omega
                              case rel => exact ⟨(y160), (x14_1), (wrap64 (x15_1 + 1)), (by first | rfl | (simp; done) | (simp [*]; done)), H', ⟨by have := HK1.out; have := HJ12.out; omega⟩, ⟨by (with_reducible repeat (first | apply Kd.R_alloc | apply Kd.R_drewN | apply Kd.R_drew)); exact HO162.out⟩, ⟨by (with_reducible repeat (first | apply Kd.R_alloc | apply Kd.R_drewN | apply Kd.R_drew)); exact Kd.R_mono HO_14.out (fun _ hk => hk.2)⟩, ⟨by repeat (first | (with_reducible first | exact HB.out | apply below_alloc | apply pw_below_drewN | apply below_drew1) | exact HB.out)⟩⟩
                          · rw [if_neg c21] at H
                            exact absurd H (by simp)
                        · rw [if_neg c19] at H
                          exact absurd H (by simp)
                      · rw [if_neg c18] at H
                        exact absurd H (by simp)
                    · rw [if_neg c17] at H
                      exact absurd H (by simp)
            · rw [if_neg c11] at H
              exact absurd H (by simp)
          · rw [if_neg c10] at H
            have c10b0 : decide (x15_1 < (l0.length : Int)) = false := decide_eq_false c10
            clear c10
            replace H := Option.bind_eq_some_iff.mp H
            obtain ⟨⟨t167, t168⟩, A300, H⟩ := H
            replace H : ((joints_Check.f x14_1).bind fun bt169 => (if t167 = 0 then (girderlaw18_JointsParts.j3 k1 l0 a2 (bt169.1 != 0)) else (girderlaw18_JointsParts.j3 k1 l0 a2 true))) = some r := H
            have A30 := Aside0.mk A300
            clear A300
            replace H := Option.bind_eq_some_iff.mp H
            obtain ⟨⟨t169, t170⟩, A310, H⟩ := H
            replace H : (if t167 = 0 then (girderlaw18_JointsParts.j3 k1 l0 a2 (t169 != 0)) else (girderlaw18_JointsParts.j3 k1 l0 a2 true)) = some r := H
            have A31 := Aside0.mk A310
            clear A310
            have HC32 := Aside0.mk H
            clear H
            obtain ⟨Ao33, co33, eo33⟩ := Kd.R_slice HO_13.out
            subst eo33
            go_upto_region 24 with (first | ((with_reducible refine gate_callee (f := 9) rfl ?_); refine goesL_ (some 136) rfl rfl Tryd.func9 (by kernel_rfl) rfl #[.slice Ao33 x13_1.length co33] rfl (by (try simp only [List.map_toArray, List.map_cons, List.map_nil]); first | done | rfl | (simp only [List.length_drop, List.length_take]; rfl)) ?_; (with_reducible refine (joints_Check.calls _ _ x13_1 t167 t168 _ ?side1 ?side2 A30.out).mono ?_); (case side1 => repeat (first | exact (Kd.R_reads' HO_13.out).2.2 | (with_reducible refine Kd.C_alloc ?_ _) | (with_reducible refine Kd.C_drewN ?_ _) | (with_reducible refine Kd.C_drew ?_))); (case side2 => exact (Kd.R_reads' HO_13.out).2.1); rintro e w34 ⟨rfl, hb⟩; refine ⟨_, rfl, ?_⟩; have n0_ := Aside0.mk (Kd.R_below (by (with_reducible repeat (first | apply Kd.R_alloc | apply Kd.R_drewN | apply Kd.R_drew)); exact HO_13.out) hb); have n1_ := Aside0.mk (Kd.R_below (by (with_reducible repeat (first | apply Kd.R_alloc | apply Kd.R_drewN | apply Kd.R_drew)); exact HO_14.out) hb); have n2_ := Aside0.mk (below_step (by repeat (first | (with_reducible first | exact HB.out | apply below_alloc | apply pw_below_drewN | apply below_drew1) | exact HB.out)) hb); clear HO_13; clear HO_14; clear HB; have HO_13 := n0_; have HO_14 := n1_; have HB := n2_; clear n0_ n1_ n2_; (try clear hb); (try clear hb2); (try clear hk); (try clear hi); obtain ⟨Ao35, co35, eo35⟩ := Kd.R_slice HO_14.out; subst eo35) | ((with_reducible refine gate_callee (f := 9) rfl ?_); refine goesL_ (some 141) rfl rfl Tryd.func9 (by kernel_rfl) rfl #[.slice Ao35 x14_1.length co35] rfl (by (try simp only [List.map_toArray, List.map_cons, List.map_nil]); first | done | rfl | (simp only [List.length_drop, List.length_take]; rfl)) ?_; (with_reducible refine (joints_Check.calls _ _ x14_1 t169 t170 _ ?side1 ?side2 A31.out).mono ?_); (case side1 => repeat (first | exact (Kd.R_reads' HO_14.out).2.2 | (with_reducible refine Kd.C_alloc ?_ _) | (with_reducible refine Kd.C_drewN ?_ _) | (with_reducible refine Kd.C_drew ?_))); (case side2 => exact (Kd.R_reads' HO_14.out).2.1); rintro e w36 ⟨rfl, hb⟩; refine ⟨_, rfl, ?_⟩; have n0_ := Aside0.mk (Kd.R_below (by (with_reducible repeat (first | apply Kd.R_alloc | apply Kd.R_drewN | apply Kd.R_drew)); exact HO_13.out) hb); have n1_ := Aside0.mk (Kd.R_below (by (with_reducible repeat (first | apply Kd.R_alloc | apply Kd.R_drewN | apply Kd.R_drew)); exact HO_14.out) hb); have n2_ := Aside0.mk (below_step (by repeat (first | (with_reducible first | exact HB.out | apply below_alloc | apply pw_below_drewN | apply below_drew1) | exact HB.out)) hb); clear HO_13; clear HO_14; clear HB; have HO_13 := n0_; have HO_14 := n1_; have HB := n2_; clear n0_ n1_ n2_; (try clear hb); (try clear hb2); (try clear hk); (try clear hi)))
            (try simp only [Act.put, List.setIfInBounds_toArray, List.set_cons_zero, List.set_cons_succ])
            go_cut [149] (fun v149 wc => ∃ (kq : Nat) (x149_31 : Bool), v149 = .bool x149_31 ∧ Aside0 (girderlaw18_JointsParts.j3 kq l0 a2 x149_31 = some r) ∧ Aside0 (kq ≤ k1) ∧ Aside0 (Below w.heap.size w wc))
            case first =>
              have H := HC32.out
              clear HC32
              by_cases c37 : t167 = 0
              · rw [if_pos c37] at H
                have c37b0 : (t167 == 0) = true := beq_iff_eq.mpr c37
                have c37b1 : (t167 != 0) = false := bne_eq_false_iff_eq.mpr c37
                clear c37
                (first | rw [c37b0] | (simp only [i64_w, i32_w]; rw [c37b0]) | skip)
                have H' := Aside0.mk H
                clear H
                go_wp2
                go_meet
                case rel => exact ⟨_, ((t169 != 0)), (by first | rfl | (simp; done) | (simp [*]; done)), H', ⟨by have := HK1.out; first | omega | exact Nat.le_refl _⟩, ⟨by repeat (first | (with_reducible first | exact HB.out | apply below_alloc | apply pw_below_drewN | apply below_drew1) | exact HB.out)⟩⟩
              · rw [if_neg c37] at H
                have c37b0 : (t167 == 0) = false := beq_eq_false_iff_ne.mpr c37
                have c37b1 : (t167 != 0) = true := bne_iff_ne.mpr c37
                (first | rw [c37b0] | (simp only [i64_w, i32_w]; rw [c37b0]) | skip)
                have H' := Aside0.mk H
                clear H
                go_wp2
                go_meet
                case rel => exact ⟨_, (true), (by first | rfl | (simp; done) | (simp [*]; done)), H', ⟨by have := HK1.out; first | omega | exact Nat.le_refl _⟩, ⟨by repeat (first | (with_reducible first | exact HB.out | apply below_alloc | apply pw_below_drewN | apply below_drew1) | exact HB.out)⟩⟩
            case rest =>
              clear HC32
              try clear c1
              try clear p1
              try clear q1
              try clear hx1
              try clear c2
              try clear p2
              try clear c3
              try clear c5
              try clear p6
              try clear c7
              try clear c7b0
              try clear c7b1
              try clear c9
              try clear c10
              try clear c10b0
              try clear c11
              try clear c11b0
              try clear c12
              try clear c13
              try clear c14
              try clear c15
              try clear p15
              try clear q15
              try clear hx15
              try clear p16
              try clear q16
              try clear hx16
              try clear c17
              try clear c17b0
              try clear c18
              try clear c18b0
              try clear c19
              try clear c21
              try clear c21b0
              try clear c21b1
              try clear c23
              try clear c23b0
              try clear c23b1
              try clear c24
              try clear c24b0
              try clear c25
              try clear c25b0
              try clear c26
              try clear c37
              try clear c37b0
              try clear c37b1
              try clear hx156_0
              try clear hx156_1
              try clear hx156_2
              try clear hx156_3
              try clear hx159_0
              try clear hx159_1
              try clear hx159_2
              try clear hx159_3
              try clear hx163_0
              try clear hx163_1
              try clear hx163_2
              try clear hx163_3
              try clear p1
              try clear p156
              try clear p159
              try clear p163
              try clear p2
              try clear q1
              try clear q156
              try clear q159
              try clear q163
              obtain ⟨kq, x149_31, rfl, HA, HJ31, HB⟩ := hcut
              cases kq with
              | zero => exact absurd HA.out (by simp [girderlaw18_JointsParts.j3])
              | succ kj31 =>
                have H := HA.out
                clear HA
                simp only [girderlaw18_JointsParts.j3] at H
                by_cases c38 : x149_31 = true
                · subst c38
                  have H1 : (some false) = some r := by rw [if_pos rfl] at H; exact H
                  clear H
                  have H := H1
                  clear H1
                  obtain rfl := Option.some.inj H
                  go_wp2
                  go_ret
                  exact ⟨by first | rfl | (simp [errW_none, errW_some] <;> rfl) | (simp [*, errW_none, errW_some] <;> rfl), by repeat (first | (with_reducible first | exact HB.out | apply below_alloc | apply pw_below_drewN | apply below_drew1) | exact HB.out)⟩
                · replace c38 := Bool.eq_false_iff.mpr c38
                  subst c38
                  have H1 : (if (l0.length : Int) = 0 then (girderlaw18_JointsParts.j4 kj31 l0 a2 true) else (girderlaw18_JointsParts.j4 kj31 l0 a2 ((l0.length : Int) == 16))) = some r := by rw [if_neg (show ¬ (false = true) by decide)] at H; exact H
                  clear H
                  have H := H1
                  clear H1
                  have HC39 := Aside0.mk H
                  clear H
                  go_upto_region 26 with (fail)
                  go_cut [157] (fun v157 wc => ∃ (kq : Nat) (x157_38 : Bool), v157 = .bool x157_38 ∧ Aside0 (girderlaw18_JointsParts.j4 kq l0 a2 x157_38 = some r) ∧ Aside0 (kq ≤ kj31) ∧ Aside0 (Below w.heap.size w wc))
                  case first =>
                    have H := HC39.out
                    clear HC39
                    by_cases c40 : (l0.length : Int) = 0
                    · rw [if_pos c40] at H
                      have c40b0 : ((l0.length : Int) == 0) = true := beq_iff_eq.mpr c40
                      have c40b1 : ((l0.length : Int) != 0) = false := bne_eq_false_iff_eq.mpr c40
                      clear c40
                      (first | rw [c40b0] | (simp only [i64_w, i32_w]; rw [c40b0]) | skip)
                      have H' := Aside0.mk H
                      clear H
                      go_wp2
                      go_meet
                      case rel => exact ⟨_, (true), (by first | rfl | (simp; done) | (simp [*]; done)), H', ⟨by have := HK1.out; have := HJ31.out; first | omega | exact Nat.le_refl _⟩, ⟨by repeat (first | (with_reducible first | exact HB.out | apply below_alloc | apply pw_below_drewN | apply below_drew1) | exact HB.out)⟩⟩
                    · rw [if_neg c40] at H
                      have c40b0 : ((l0.length : Int) == 0) = false := beq_eq_false_iff_ne.mpr c40
                      have c40b1 : ((l0.length : Int) != 0) = true := bne_iff_ne.mpr c40
                      have c40b2 : ¬ (l0 = []) := fun h_ => c40 (by rw [h_]; rfl)
                      (first | rw [c40b0] | (simp only [i64_w, i32_w]; rw [c40b0]) | skip)
                      have H' := Aside0.mk H
                      clear H
                      go_wp2
                      go_meet
                      case rel => exact ⟨_, (((l0.length : Int) == 16)), (by first | rfl | (simp; done) | (simp [*]; done)), H', ⟨by have := HK1.out; have := HJ31.out; first | omega | exact Nat.le_refl _⟩, ⟨by repeat (first | (with_reducible first | exact HB.out | apply below_alloc | apply pw_below_drewN | apply below_drew1) | exact HB.out)⟩⟩
                  case rest =>
                    clear HC39
                    try clear c1
                    try clear p1
                    try clear q1
                    try clear hx1
                    try clear c2
                    try clear p2
                    try clear c3
                    try clear c4
                    try clear c5
                    try clear p6
                    try clear c7
                    try clear c7b0
                    try clear c7b1
                    try clear c9
                    try clear c10
                    try clear c10b0
                    try clear c11
                    try clear c11b0
                    try clear c12
                    try clear c13
                    try clear c14
                    try clear c15
                    try clear p15
                    try clear q15
                    try clear hx15
                    try clear p16
                    try clear q16
                    try clear hx16
                    try clear c17
                    try clear c17b0
                    try clear c18
                    try clear c18b0
                    try clear c19
                    try clear c21
                    try clear c21b0
                    try clear c21b1
                    try clear c23
                    try clear c23b0
                    try clear c23b1
                    try clear c24
                    try clear c24b0
                    try clear c25
                    try clear c25b0
                    try clear c26
                    try clear c37
                    try clear c37b0
                    try clear c37b1
                    try clear c38
                    try clear c40
                    try clear c40b0
                    try clear c40b1
                    try clear c40b2
                    try clear hx156_0
                    try clear hx156_1
                    try clear hx156_2
                    try clear hx156_3
                    try clear hx159_0
                    try clear hx159_1
                    try clear hx159_2
                    try clear hx159_3
                    try clear hx163_0
                    try clear hx163_1
                    try clear hx163_2
                    try clear hx163_3
                    try clear p1
                    try clear p15
                    try clear p156
                    try clear p159
                    try clear p16
                    try clear p163
                    try clear p2
                    try clear p6
                    try clear q1
                    try clear q15
                    try clear q156
                    try clear q159
                    try clear q16
                    try clear q163
                    obtain ⟨kq, x157_38, rfl, HA, HJ38, HB⟩ := hcut
                    cases kq with
                    | zero => exact absurd HA.out (by simp [girderlaw18_JointsParts.j4])
                    | succ kj38 =>
                      have H := HA.out
                      clear HA
                      simp only [girderlaw18_JointsParts.j4] at H
                      by_cases c41 : x157_38 = true
                      · subst c41
                        have H1 : (some true) = some r := by rw [if_pos rfl] at H; exact H
                        clear H
                        have H := H1
                        clear H1
                        obtain rfl := Option.some.inj H
                        go_wp2
                        go_ret
                        exact ⟨by first | rfl | (simp [errW_none, errW_some] <;> rfl) | (simp [*, errW_none, errW_some] <;> rfl), by repeat (first | (with_reducible first | exact HB.out | apply below_alloc | apply pw_below_drewN | apply below_drew1) | exact HB.out)⟩
                      · replace c41 := Bool.eq_false_iff.mpr c41
                        subst c41
                        have H1 : ((girderkit_CopyJoints.f l0).bind fun t171 => ((girderkit_Pick.f a2 (l0.length : Int)).bind fun t174 => (if 0 ≤ t174 then (if t174 < (l0.length : Int) then (if t171.length < 4398046511104 then ((joints_Check.f (t171 ++ [(⟨(rd_T33 l0 t174).f0, (rd_T33 l0 t174).f1, (rd_T33 l0 t174).f2, (rd_T33 l0 t174).f3⟩ : S33)])).bind fun bt179 => (if bt179.1 = 280 then (some (bt179.2 == (l0.length : Int))) else (some false))) else (none)) else (none)) else (none)))) = some r := by rw [if_neg (show ¬ (false = true) by decide)] at H; exact H
                        clear H
                        have H := H1
                        clear H1
                        replace H := Option.bind_eq_some_iff.mp H
                        obtain ⟨t171, A420, H⟩ := H
                        replace H : ((girderkit_Pick.f a2 (l0.length : Int)).bind fun t174 => (if 0 ≤ t174 then (if t174 < (l0.length : Int) then (if t171.length < 4398046511104 then ((joints_Check.f (t171 ++ [(⟨(rd_T33 l0 t174).f0, (rd_T33 l0 t174).f1, (rd_T33 l0 t174).f2, (rd_T33 l0 t174).f3⟩ : S33)])).bind fun bt179 => (if bt179.1 = 280 then (some (bt179.2 == (l0.length : Int))) else (some false))) else (none)) else (none)) else (none))) = some r := H
                        have A42 := Aside0.mk A420
                        clear A420
                        replace H := Option.bind_eq_some_iff.mp H
                        obtain ⟨t174, A430, H⟩ := H
                        replace H : (if 0 ≤ t174 then (if t174 < (l0.length : Int) then (if t171.length < 4398046511104 then ((joints_Check.f (t171 ++ [(⟨(rd_T33 l0 t174).f0, (rd_T33 l0 t174).f1, (rd_T33 l0 t174).f2, (rd_T33 l0 t174).f3⟩ : S33)])).bind fun bt179 => (if bt179.1 = 280 then (some (bt179.2 == (l0.length : Int))) else (some false))) else (none)) else (none)) else (none)) = some r := H
                        have A43 := Aside0.mk A430
                        clear A430
                        by_cases c44 : 0 ≤ t174
                        · rw [if_pos c44] at H
                          have c44b0 : decide (0 ≤ t174) = true := decide_eq_true c44
                          clear c44
                          by_cases c45 : t174 < (l0.length : Int)
                          · rw [if_pos c45] at H
                            have c45b0 : decide (t174 < (l0.length : Int)) = true := decide_eq_true c45
                            clear c45
                            by_cases c46 : t171.length < 4398046511104
                            · rw [if_pos c46] at H
                              have LMc46 := Aside0.mk c46
                              clear c46
                              obtain ⟨y176, hy176⟩ : ∃ y_ : List (S33), y_ = (t171 ++ [(⟨(rd_T33 l0 t174).f0, (rd_T33 l0 t174).f1, (rd_T33 l0 t174).f2, (rd_T33 l0 t174).f3⟩ : S33)]) := ⟨_, rfl⟩
                              replace H : ((joints_Check.f y176).bind fun bt179 => (if bt179.1 = 280 then (some (bt179.2 == (l0.length : Int))) else (some false))) = some r := by first | (rw [hy176]; with_reducible exact H) | (have H2_ := (Option.bind_some _ _).symm.trans H; rw [hy176]; with_reducible exact H2_) | (have H2_ := (Option.bind_some _ _).symm.trans H; with_reducible exact H2_) | with_reducible exact H | (rw [hy176]; exact H) | exact H
                              have Ny176 := Aside0.mk hy176
                              clear hy176
                              replace H := Option.bind_eq_some_iff.mp H
                              obtain ⟨⟨t179, t180⟩, A470, H⟩ := H
                              replace H : (if t179 = 280 then (some (t180 == (l0.length : Int))) else (some false)) = some r := H
                              have A47 := Aside0.mk A470
                              clear A470
                              by_cases c48 : t179 = 280
                              · rw [if_pos c48] at H
                                have c48b0 : (t179 == 280) = true := beq_iff_eq.mpr c48
                                have c48b1 : (t179 != 280) = false := bne_eq_false_iff_eq.mpr c48
                                clear c48
                                obtain rfl := Option.some.inj H
                                go_wp2_with (first | ((with_reducible refine gate_callee (f := 15) rfl ?_); refine goesL_ (some 159) rfl rfl Tryd.func15 (by kernel_rfl) rfl #[.slice A0 l0.length c0] rfl (by (try simp only [List.map_toArray, List.map_cons, List.map_nil]); first | done | rfl | (simp only [List.length_drop, List.length_take]; rfl)) ?_; (with_reducible refine (girderkit_CopyJoints.calls _ _ l0 t171 _ ?side1 ?side2 A42.out).mono ?_); (case side1 => repeat (first | exact (Kd.C_below HR0.out HB.out) | (with_reducible refine Kd.C_alloc ?_ _) | (with_reducible refine Kd.C_drewN ?_ _) | (with_reducible refine Kd.C_drew ?_))); (case side2 => exact HC0.out); rintro e w49 ⟨v172, rfl, ho0, hb⟩; refine ⟨_, rfl, ?_⟩; have n0_ := Aside0.mk (Kd.R_lower ho0 (below_size (by repeat (first | (with_reducible first | exact HB.out | apply below_alloc | apply pw_below_drewN | apply below_drew1) | exact HB.out)))); have n1_ := Aside0.mk (below_step (by repeat (first | (with_reducible first | exact HB.out | apply below_alloc | apply pw_below_drewN | apply below_drew1) | exact HB.out)) hb); clear HB; have HO173 := n0_; have HB := n1_; clear n0_ n1_; (try clear hb); (try clear hb2); (try clear hk); (try clear hi); (try clear ho0)) | ((with_reducible refine gate_callee (f := 16) rfl ?_); refine goesL_ (some 164) rfl rfl Tryd.func16 (by kernel_rfl) rfl #[.int .i64 a2, .int .i64 (l0.length : Int)] rfl (by (try simp only [List.map_toArray, List.map_cons, List.map_nil]); first | done | rfl | (simp only [List.length_drop, List.length_take]; rfl)) ?_; (with_reducible refine (girderkit_Pick.calls a2 (l0.length : Int) t174 _ A43.out).mono ?_); rintro e w' ⟨rfl, ⟨nd, rfl⟩⟩; refine ⟨_, rfl, ?_⟩; have p175 : 0 ≤ (t174 : Int) := of_decide_eq_true (by first | (with_reducible assumption) | assumption); have q175 : t174 < (l0.length : Int) := of_decide_eq_true (by first | (with_reducible assumption) | assumption); obtain ⟨ad175, e175, hx175_0, hx175_1, hx175_2, hx175_3⟩ := at_T33 HR0.out t174 p175 q175; cases e175; replace hx175_0 := (HB.out.cell (World.block_lt_of_cell? w _ hx175_0)).trans hx175_0; replace hx175_1 := (HB.out.cell (World.block_lt_of_cell? w _ hx175_1)).trans hx175_1; replace hx175_2 := (HB.out.cell (World.block_lt_of_cell? w _ hx175_2)).trans hx175_2; replace hx175_3 := (HB.out.cell (World.block_lt_of_cell? w _ hx175_3)).trans hx175_3; replace p175 := eq_true p175; replace q175 := eq_true q175) | ((with_reducible refine gate_builtin (b := .append) (xs := #[.tmp 159, .tmp 167]) rfl ?_); (try (refine gate_guard (by rfl) ?_; dsimp only)); at_builtin; refine Kd.R_append k33 (w0 := w) w.heap.size rfl (.tmp 159) (.tmp 167) 22 33 (.agg #[(.string ⟨#[]⟩), (.int .i32 0), (.int .i32 0), (.int .u8 0)]) 32 rfl Tryd.underlying22 info33 rfl (by decide) (by omega) v172 t171 (⟨(rd_T33 l0 t174).f0, (rd_T33 l0 t174).f1, (rd_T33 l0 t174).f2, (rd_T33 l0 t174).f3⟩ : S33) [.string ((rd_T33 l0 t174).f0), .int .i32 ((rd_T33 l0 t174).f1), .int .i32 ((rd_T33 l0 t174).f2), .int .u8 ((rd_T33 l0 t174).f3)] (fun _ => True) (fun _ => False) rfl rfl ?aP (fun _ hk => hk.elim) ?aF ?aO ?aB ?aS ?aL ?_; (case aP => exact k33_mkM _ _ _ (⟨(rd_T33 l0 t174).f0, (rd_T33 l0 t174).f1, (rd_T33 l0 t174).f2, (rd_T33 l0 t174).f3⟩ : S33)); (case aB => exact (by repeat (first | (with_reducible first | exact HB.out | apply below_alloc | apply pw_below_drewN | apply below_drew1) | exact HB.out))); (case aF => exact (fun _ _ => trivial)); (case aO => exact (by (with_reducible repeat (first | apply Kd.R_alloc | apply Kd.R_drewN | apply Kd.R_drew)); exact HO173.out)); (case aS => exact (below_size (by repeat (first | (with_reducible first | exact HB.out | apply below_alloc | apply pw_below_drewN | apply below_drew1) | exact HB.out)))); (case aL => have := LMc46.out; omega); intro v177 w50 ho hb hg hat; rw [← Ny176.out] at ho; have n0_ := Aside0.mk (hb); have n1_ := Aside0.mk (ho); clear HB; clear HO173; have HB := n0_; have HO178 := n1_; clear n0_ n1_; clear ho hb hg hat; obtain ⟨Ao51, co51, eo51⟩ := Kd.R_slice HO178.out; subst eo51) | ((with_reducible refine gate_callee (f := 9) rfl ?_); refine goesL_ (some 171) rfl rfl Tryd.func9 (by kernel_rfl) rfl #[.slice Ao51 y176.length co51] rfl (by (try simp only [List.map_toArray, List.map_cons, List.map_nil]); first | done | rfl | (simp only [List.length_drop, List.length_take]; rfl)) ?_; (with_reducible refine (joints_Check.calls _ _ y176 t179 t180 _ ?side1 ?side2 A47.out).mono ?_); (case side1 => repeat (first | exact (Kd.R_reads' HO178.out).2.2 | (with_reducible refine Kd.C_alloc ?_ _) | (with_reducible refine Kd.C_drewN ?_ _) | (with_reducible refine Kd.C_drew ?_))); (case side2 => exact (Kd.R_reads' HO178.out).2.1); rintro e w52 ⟨rfl, hb⟩; refine ⟨_, rfl, ?_⟩; have n0_ := Aside0.mk (Kd.R_below (by (with_reducible repeat (first | apply Kd.R_alloc | apply Kd.R_drewN | apply Kd.R_drew)); exact HO178.out) hb); have n1_ := Aside0.mk (below_step (by repeat (first | (with_reducible first | exact HB.out | apply below_alloc | apply pw_below_drewN | apply below_drew1) | exact HB.out)) hb); clear HO178; clear HB; have HO178 := n0_; have HB := n1_; clear n0_ n1_; (try clear hb); (try clear hb2); (try clear hk); (try clear hi)))
                                go_ret
                                exact ⟨by first | rfl | (simp [errW_none, errW_some] <;> rfl) | (simp [*, errW_none, errW_some] <;> rfl), by repeat (first | (with_reducible first | exact HB.out | apply below_alloc | apply pw_below_drewN | apply below_drew1) | exact HB.out)⟩
                              · rw [if_neg c48] at H
                                have c48b0 : (t179 == 280) = false := beq_eq_false_iff_ne.mpr c48
                                have c48b1 : (t179 != 280) = true := bne_iff_ne.mpr c48
                                obtain rfl := Option.some.inj H
                                go_wp2_with (first | ((with_reducible refine gate_callee (f := 15) rfl ?_); refine goesL_ (some 159) rfl rfl Tryd.func15 (by kernel_rfl) rfl #[.slice A0 l0.length c0] rfl (by (try simp only [List.map_toArray, List.map_cons, List.map_nil]); first | done | rfl | (simp only [List.length_drop, List.length_take]; rfl)) ?_; (with_reducible refine (girderkit_CopyJoints.calls _ _ l0 t171 _ ?side1 ?side2 A42.out).mono ?_); (case side1 => repeat (first | exact (Kd.C_below HR0.out HB.out) | (with_reducible refine Kd.C_alloc ?_ _) | (with_reducible refine Kd.C_drewN ?_ _) | (with_reducible refine Kd.C_drew ?_))); (case side2 => exact HC0.out); rintro e w53 ⟨v172, rfl, ho0, hb⟩; refine ⟨_, rfl, ?_⟩; have n0_ := Aside0.mk (Kd.R_lower ho0 (below_size (by repeat (first | (with_reducible first | exact HB.out | apply below_alloc | apply pw_below_drewN | apply below_drew1) | exact HB.out)))); have n1_ := Aside0.mk (below_step (by repeat (first | (with_reducible first | exact HB.out | apply below_alloc | apply pw_below_drewN | apply below_drew1) | exact HB.out)) hb); clear HB; have HO173 := n0_; have HB := n1_; clear n0_ n1_; (try clear hb); (try clear hb2); (try clear hk); (try clear hi); (try clear ho0)) | ((with_reducible refine gate_callee (f := 16) rfl ?_); refine goesL_ (some 164) rfl rfl Tryd.func16 (by kernel_rfl) rfl #[.int .i64 a2, .int .i64 (l0.length : Int)] rfl (by (try simp only [List.map_toArray, List.map_cons, List.map_nil]); first | done | rfl | (simp only [List.length_drop, List.length_take]; rfl)) ?_; (with_reducible refine (girderkit_Pick.calls a2 (l0.length : Int) t174 _ A43.out).mono ?_); rintro e w' ⟨rfl, ⟨nd, rfl⟩⟩; refine ⟨_, rfl, ?_⟩; have p175 : 0 ≤ (t174 : Int) := of_decide_eq_true (by first | (with_reducible assumption) | assumption); have q175 : t174 < (l0.length : Int) := of_decide_eq_true (by first | (with_reducible assumption) | assumption); obtain ⟨ad175, e175, hx175_0, hx175_1, hx175_2, hx175_3⟩ := at_T33 HR0.out t174 p175 q175; cases e175; replace hx175_0 := (HB.out.cell (World.block_lt_of_cell? w _ hx175_0)).trans hx175_0; replace hx175_1 := (HB.out.cell (World.block_lt_of_cell? w _ hx175_1)).trans hx175_1; replace hx175_2 := (HB.out.cell (World.block_lt_of_cell? w _ hx175_2)).trans hx175_2; replace hx175_3 := (HB.out.cell (World.block_lt_of_cell? w _ hx175_3)).trans hx175_3; replace p175 := eq_true p175; replace q175 := eq_true q175) | ((with_reducible refine gate_builtin (b := .append) (xs := #[.tmp 159, .tmp 167]) rfl ?_); (try (refine gate_guard (by rfl) ?_; dsimp only)); at_builtin; refine Kd.R_append k33 (w0 := w) w.heap.size rfl (.tmp 159) (.tmp 167) 22 33 (.agg #[(.string ⟨#[]⟩), (.int .i32 0), (.int .i32 0), (.int .u8 0)]) 32 rfl Tryd.underlying22 info33 rfl (by decide) (by omega) v172 t171 (⟨(rd_T33 l0 t174).f0, (rd_T33 l0 t174).f1, (rd_T33 l0 t174).f2, (rd_T33 l0 t174).f3⟩ : S33) [.string ((rd_T33 l0 t174).f0), .int .i32 ((rd_T33 l0 t174).f1), .int .i32 ((rd_T33 l0 t174).f2), .int .u8 ((rd_T33 l0 t174).f3)] (fun _ => True) (fun _ => False) rfl rfl ?aP (fun _ hk => hk.elim) ?aF ?aO ?aB ?aS ?aL ?_; (case aP => exact k33_mkM _ _ _ (⟨(rd_T33 l0 t174).f0, (rd_T33 l0 t174).f1, (rd_T33 l0 t174).f2, (rd_T33 l0 t174).f3⟩ : S33)); (case aB => exact (by repeat (first | (with_reducible first | exact HB.out | apply below_alloc | apply pw_below_drewN | apply below_drew1) | exact HB.out))); (case aF => exact (fun _ _ => trivial)); (case aO => exact (by (with_reducible repeat (first | apply Kd.R_alloc | apply Kd.R_drewN | apply Kd.R_drew)); exact HO173.out)); (case aS => exact (below_size (by repeat (first | (with_reducible first | exact HB.out | apply below_alloc | apply pw_below_drewN | apply below_drew1) | exact HB.out)))); (case aL => have := LMc46.out; omega); intro v177 w54 ho hb hg hat; rw [← Ny176.out] at ho; have n0_ := Aside0.mk (hb); have n1_ := Aside0.mk (ho); clear HB; clear HO173; have HB := n0_; have HO178 := n1_; clear n0_ n1_; clear ho hb hg hat; obtain ⟨Ao55, co55, eo55⟩ := Kd.R_slice HO178.out; subst eo55) | ((with_reducible refine gate_callee (f := 9) rfl ?_); refine goesL_ (some 171) rfl rfl Tryd.func9 (by kernel_rfl) rfl #[.slice Ao55 y176.length co55] rfl (by (try simp only [List.map_toArray, List.map_cons, List.map_nil]); first | done | rfl | (simp only [List.length_drop, List.length_take]; rfl)) ?_; (with_reducible refine (joints_Check.calls _ _ y176 t179 t180 _ ?side1 ?side2 A47.out).mono ?_); (case side1 => repeat (first | exact (Kd.R_reads' HO178.out).2.2 | (with_reducible refine Kd.C_alloc ?_ _) | (with_reducible refine Kd.C_drewN ?_ _) | (with_reducible refine Kd.C_drew ?_))); (case side2 => exact (Kd.R_reads' HO178.out).2.1); rintro e w56 ⟨rfl, hb⟩; refine ⟨_, rfl, ?_⟩; have n0_ := Aside0.mk (Kd.R_below (by (with_reducible repeat (first | apply Kd.R_alloc | apply Kd.R_drewN | apply Kd.R_drew)); exact HO178.out) hb); have n1_ := Aside0.mk (below_step (by repeat (first | (with_reducible first | exact HB.out | apply below_alloc | apply pw_below_drewN | apply below_drew1) | exact HB.out)) hb); clear HO178; clear HB; have HO178 := n0_; have HB := n1_; clear n0_ n1_; (try clear hb); (try clear hb2); (try clear hk); (try clear hi)))
                                go_ret
                                exact ⟨by first | rfl | (simp [errW_none, errW_some] <;> rfl) | (simp [*, errW_none, errW_some] <;> rfl), by repeat (first | (with_reducible first | exact HB.out | apply below_alloc | apply pw_below_drewN | apply below_drew1) | exact HB.out)⟩
                            · rw [if_neg c46] at H
                              exact absurd H (by simp)
                          · rw [if_neg c45] at H
                            exact absurd H (by simp)
                        · rw [if_neg c44] at H
                          exact absurd H (by simp)
    · rw [if_neg c7] at H
      have c7b0 : (t142 == 0) = false := beq_eq_false_iff_ne.mpr c7
      have c7b1 : (t142 != 0) = true := bne_iff_ne.mpr c7
      by_cases c57 : t142 = 3
      · rw [if_pos c57] at H
        have c57b0 : (t142 == 3) = true := beq_iff_eq.mpr c57
        have c57b1 : (t142 != 3) = false := bne_eq_false_iff_eq.mpr c57
        clear c57
        by_cases c58 : t143 = 0
        · rw [if_pos c58] at H
          have c58b0 : (t143 == 0) = true := beq_iff_eq.mpr c58
          have c58b1 : (t143 != 0) = false := bne_eq_false_iff_eq.mpr c58
          clear c58
          obtain rfl := Option.some.inj H
          go_enter Tryd.func5, Tryd.ntmps5
          go_wp2_with (first | ((with_reducible refine gate_callee (f := 12) rfl ?_); refine goesL_ (some 25) rfl rfl Tryd.func12 (by kernel_rfl) rfl #[] rfl (by (try simp only [List.map_toArray, List.map_cons, List.map_nil]); first | done | rfl | (simp only [List.length_drop, List.length_take]; rfl)) ?_; (with_reducible refine (girderlaw18_awake.calls  true _ A4.out).mono ?_); rintro e w59 ⟨rfl, hb⟩; refine ⟨_, rfl, ?_⟩; have n0_ := Aside0.mk (below_step (by repeat (first | (with_reducible first | exact HB.out | apply below_alloc | apply pw_below_drewN | apply below_drew1) | exact HB.out)) hb); clear HB; have HB := n0_; clear n0_; (try clear hb); (try clear hb2); (try clear hk); (try clear hi)) | ((with_reducible refine gate_callee (f := 9) rfl ?_); refine goesL_ (some 29) rfl rfl Tryd.func9 (by kernel_rfl) rfl #[.slice A0 l0.length c0] rfl (by (try simp only [List.map_toArray, List.map_cons, List.map_nil]); first | done | rfl | (simp only [List.length_drop, List.length_take]; rfl)) ?_; (with_reducible refine (joints_Check.calls _ _ l0 t142 t143 _ ?side1 ?side2 A6.out).mono ?_); (case side1 => repeat (first | exact (Kd.C_below HR0.out HB.out) | (with_reducible refine Kd.C_alloc ?_ _) | (with_reducible refine Kd.C_drewN ?_ _) | (with_reducible refine Kd.C_drew ?_))); (case side2 => exact HC0.out); rintro e w60 ⟨rfl, hb⟩; refine ⟨_, rfl, ?_⟩; have n0_ := Aside0.mk (below_step (by repeat (first | (with_reducible first | exact HB.out | apply below_alloc | apply pw_below_drewN | apply below_drew1) | exact HB.out)) hb); clear HB; have HB := n0_; clear n0_; (try clear hb); (try clear hb2); (try clear hk); (try clear hi)))
          go_ret
          exact ⟨by first | rfl | (simp [errW_none, errW_some] <;> rfl) | (simp [*, errW_none, errW_some] <;> rfl), by repeat (first | (with_reducible first | exact HB.out | apply below_alloc | apply pw_below_drewN | apply below_drew1) | exact HB.out)⟩
        · rw [if_neg c58] at H
          have c58b0 : (t143 == 0) = false := beq_eq_false_iff_ne.mpr c58
          have c58b1 : (t143 != 0) = true := bne_iff_ne.mpr c58
          obtain rfl := Option.some.inj H
          go_enter Tryd.func5, Tryd.ntmps5
          go_wp2_with (first | ((with_reducible refine gate_callee (f := 12) rfl ?_); refine goesL_ (some 25) rfl rfl Tryd.func12 (by kernel_rfl) rfl #[] rfl (by (try simp only [List.map_toArray, List.map_cons, List.map_nil]); first | done | rfl | (simp only [List.length_drop, List.length_take]; rfl)) ?_; (with_reducible refine (girderlaw18_awake.calls  true _ A4.out).mono ?_); rintro e w61 ⟨rfl, hb⟩; refine ⟨_, rfl, ?_⟩; have n0_ := Aside0.mk (below_step (by repeat (first | (with_reducible first | exact HB.out | apply below_alloc | apply pw_below_drewN | apply below_drew1) | exact HB.out)) hb); clear HB; have HB := n0_; clear n0_; (try clear hb); (try clear hb2); (try clear hk); (try clear hi)) | ((with_reducible refine gate_callee (f := 9) rfl ?_); refine goesL_ (some 29) rfl rfl Tryd.func9 (by kernel_rfl) rfl #[.slice A0 l0.length c0] rfl (by (try simp only [List.map_toArray, List.map_cons, List.map_nil]); first | done | rfl | (simp only [List.length_drop, List.length_take]; rfl)) ?_; (with_reducible refine (joints_Check.calls _ _ l0 t142 t143 _ ?side1 ?side2 A6.out).mono ?_); (case side1 => repeat (first | exact (Kd.C_below HR0.out HB.out) | (with_reducible refine Kd.C_alloc ?_ _) | (with_reducible refine Kd.C_drewN ?_ _) | (with_reducible refine Kd.C_drew ?_))); (case side2 => exact HC0.out); rintro e w62 ⟨rfl, hb⟩; refine ⟨_, rfl, ?_⟩; have n0_ := Aside0.mk (below_step (by repeat (first | (with_reducible first | exact HB.out | apply below_alloc | apply pw_below_drewN | apply below_drew1) | exact HB.out)) hb); clear HB; have HB := n0_; clear n0_; (try clear hb); (try clear hb2); (try clear hk); (try clear hi)))
          go_ret
          exact ⟨by first | rfl | (simp [errW_none, errW_some] <;> rfl) | (simp [*, errW_none, errW_some] <;> rfl), by repeat (first | (with_reducible first | exact HB.out | apply below_alloc | apply pw_below_drewN | apply below_drew1) | exact HB.out)⟩
      · rw [if_neg c57] at H
        have c57b0 : (t142 == 3) = false := beq_eq_false_iff_ne.mpr c57
        have c57b1 : (t142 != 3) = true := bne_iff_ne.mpr c57
        have HC63 := Aside0.mk H
        clear H
        go_enter Tryd.func5, Tryd.ntmps5
        go_upto_region 7 with (first | ((with_reducible refine gate_callee (f := 12) rfl ?_); refine goesL_ (some 25) rfl rfl Tryd.func12 (by kernel_rfl) rfl #[] rfl (by (try simp only [List.map_toArray, List.map_cons, List.map_nil]); first | done | rfl | (simp only [List.length_drop, List.length_take]; rfl)) ?_; (with_reducible refine (girderlaw18_awake.calls  true _ A4.out).mono ?_); rintro e w64 ⟨rfl, hb⟩; refine ⟨_, rfl, ?_⟩; have n0_ := Aside0.mk (below_step (by repeat (first | (with_reducible first | exact HB.out | apply below_alloc | apply pw_below_drewN | apply below_drew1) | exact HB.out)) hb); clear HB; have HB := n0_; clear n0_; (try clear hb); (try clear hb2); (try clear hk); (try clear hi)) | ((with_reducible refine gate_callee (f := 9) rfl ?_); refine goesL_ (some 29) rfl rfl Tryd.func9 (by kernel_rfl) rfl #[.slice A0 l0.length c0] rfl (by (try simp only [List.map_toArray, List.map_cons, List.map_nil]); first | done | rfl | (simp only [List.length_drop, List.length_take]; rfl)) ?_; (with_reducible refine (joints_Check.calls _ _ l0 t142 t143 _ ?side1 ?side2 A6.out).mono ?_); (case side1 => repeat (first | exact (Kd.C_below HR0.out HB.out) | (with_reducible refine Kd.C_alloc ?_ _) | (with_reducible refine Kd.C_drewN ?_ _) | (with_reducible refine Kd.C_drew ?_))); (case side2 => exact HC0.out); rintro e w65 ⟨rfl, hb⟩; refine ⟨_, rfl, ?_⟩; have n0_ := Aside0.mk (below_step (by repeat (first | (with_reducible first | exact HB.out | apply below_alloc | apply pw_below_drewN | apply below_drew1) | exact HB.out)) hb); clear HB; have HB := n0_; clear n0_; (try clear hb); (try clear hb2); (try clear hk); (try clear hi)))
        (try simp only [Act.put, List.setIfInBounds_toArray, List.set_cons_zero, List.set_cons_succ])
        go_cut [50] (fun v50 wc => ∃ (kq : Nat) (x50_62 : Bool), v50 = .bool x50_62 ∧ Aside0 (girderlaw18_JointsParts.j0 kq l0 t142 t143 x50_62 = some r) ∧ Aside0 (kq ≤ k) ∧ Aside0 (Below w.heap.size w wc))
        case first =>
          have H := HC63.out
          clear HC63
          by_cases c66 : t143 < 0
          · rw [if_pos c66] at H
            have c66b0 : decide (t143 < 0) = true := decide_eq_true c66
            clear c66
            (first | rw [c66b0] | (simp only [i64_w, i32_w]; rw [c66b0]) | skip)
            have H' := Aside0.mk H
            clear H
            go_wp2
            go_meet
            case rel => exact ⟨_, (true), (by first | rfl | (simp; done) | (simp [*]; done)), H', ⟨by first | omega | exact Nat.le_refl _⟩, ⟨by repeat (first | (with_reducible first | exact HB.out | apply below_alloc | apply pw_below_drewN | apply below_drew1) | exact HB.out)⟩⟩
          · rw [if_neg c66] at H
            have c66b0 : decide (t143 < 0) = false := decide_eq_false c66
            clear c66
            (first | rw [c66b0] | (simp only [i64_w, i32_w]; rw [c66b0]) | skip)
            have H' := Aside0.mk H
            clear H
            go_wp2
            go_meet
            case rel => exact ⟨_, (decide (t143 ≥ (l0.length : Int))), (by first | rfl | (simp; done) | (simp [*]; done)), H', ⟨by first | omega | exact Nat.le_refl _⟩, ⟨by repeat (first | (with_reducible first | exact HB.out | apply below_alloc | apply pw_below_drewN | apply below_drew1) | exact HB.out)⟩⟩
        case rest =>
          clear HC63
          try clear c1
          try clear p1
          try clear q1
          try clear hx1
          try clear c2
          try clear p2
          try clear c3
          try clear c4
          try clear c5
          try clear c6
          try clear p6
          try clear c7
          try clear c7b0
          try clear c7b1
          try clear c9
          try clear c10
          try clear c10b0
          try clear c11
          try clear c11b0
          try clear c12
          try clear c13
          try clear c14
          try clear c15
          try clear p15
          try clear q15
          try clear hx15
          try clear c16
          try clear p16
          try clear q16
          try clear hx16
          try clear c17
          try clear c17b0
          try clear p17
          try clear q17
          try clear hx17
          try clear c18
          try clear c18b0
          try clear c19
          try clear c21
          try clear c21b0
          try clear c21b1
          try clear c23
          try clear c23b0
          try clear c23b1
          try clear c24
          try clear c24b0
          try clear c25
          try clear c25b0
          try clear c26
          try clear c37
          try clear c37b0
          try clear c37b1
          try clear c38
          try clear c40
          try clear c40b0
          try clear c40b1
          try clear c40b2
          try clear c41
          try clear c44
          try clear c44b0
          try clear c45
          try clear c45b0
          try clear c46
          try clear c48
          try clear c48b0
          try clear c48b1
          try clear c57
          try clear c57b0
          try clear c57b1
          try clear c58
          try clear c58b0
          try clear c58b1
          try clear p64
          try clear c66
          try clear c66b0
          try clear hx156_0
          try clear hx156_1
          try clear hx156_2
          try clear hx156_3
          try clear hx159_0
          try clear hx159_1
          try clear hx159_2
          try clear hx159_3
          try clear hx163_0
          try clear hx163_1
          try clear hx163_2
          try clear hx163_3
          try clear hx175_0
          try clear hx175_1
          try clear hx175_2
          try clear hx175_3
          try clear p1
          try clear p15
          try clear p156
          try clear p159
          try clear p16
          try clear p163
          try clear p175
          try clear p2
          try clear p6
          try clear q1
          try clear q15
          try clear q156
          try clear q159
          try clear q16
          try clear q163
          try clear q175
          obtain ⟨kq, x50_62, rfl, HA, HJ62, HB⟩ := hcut
          cases kq with
          | zero => exact absurd HA.out (by simp [girderlaw18_JointsParts.j0])
          | succ kj62 =>
            have H := HA.out
            clear HA
            simp only [girderlaw18_JointsParts.j0] at H
            by_cases c67 : x50_62 = true
            · subst c67
              have H1 : (some false) = some r := by rw [if_pos rfl] at H; exact H
              clear H
              have H := H1
              clear H1
              obtain rfl := Option.some.inj H
              go_wp2
              go_ret
              exact ⟨by first | rfl | (simp [errW_none, errW_some] <;> rfl) | (simp [*, errW_none, errW_some] <;> rfl), by repeat (first | (with_reducible first | exact HB.out | apply below_alloc | apply pw_below_drewN | apply below_drew1) | exact HB.out)⟩
            · replace c67 := Bool.eq_false_iff.mpr c67
              subst c67
              have H1 : (if 0 ≤ t143 then (if t143 ≤ (l0.length : Int) then ((joints_Check.f (l0.take (t143 : Int).toNat)).bind fun bt148 => (if 0 ≤ (wrap64 (t143 + 1)) then (if (wrap64 (t143 + 1)) ≤ (l0.length : Int) then ((joints_Check.f (l0.take ((wrap64 (t143 + 1)) : Int).toNat)).bind fun bt154 => (if t142 = 280 then (if bt148.1 = 0 then (if bt148.2 = 0 then (if bt154.1 = t142 then (some (bt154.2 == t143)) else (some false)) else (some false)) else (some false)) else (some false))) else (none)) else (none))) else (none)) else (none)) = some r := by rw [if_neg (show ¬ (false = true) by decide)] at H; exact H
              clear H
              have H := H1
              clear H1
              by_cases c68 : 0 ≤ t143
              · rw [if_pos c68] at H
                have c68b0 := eq_true c68
                have c68b1 : decide (0 ≤ t143) = true := decide_eq_true c68
                clear c68
                by_cases c69 : t143 ≤ (l0.length : Int)
                · rw [if_pos c69] at H
                  have c69b0 := eq_true c69
                  have c69b1 : decide (t143 ≤ (l0.length : Int)) = true := decide_eq_true c69
                  clear c69
                  obtain ⟨y144, hy144⟩ : ∃ y_ : List (S33), y_ = (l0.take (t143 : Int).toNat) := ⟨_, rfl⟩
                  replace H : ((joints_Check.f y144).bind fun bt148 => (if 0 ≤ (wrap64 (t143 + 1)) then (if (wrap64 (t143 + 1)) ≤ (l0.length : Int) then ((joints_Check.f (l0.take ((wrap64 (t143 + 1)) : Int).toNat)).bind fun bt154 => (if t142 = 280 then (if bt148.1 = 0 then (if bt148.2 = 0 then (if bt154.1 = t142 then (some (bt154.2 == t143)) else (some false)) else (some false)) else (some false)) else (some false))) else (none)) else (none))) = some r := by first | (rw [hy144]; with_reducible exact H) | (have H2_ := (Option.bind_some _ _).symm.trans H; rw [hy144]; with_reducible exact H2_) | (have H2_ := (Option.bind_some _ _).symm.trans H; with_reducible exact H2_) | with_reducible exact H | (rw [hy144]; exact H) | exact H
                  have Ny144 := Aside0.mk hy144
                  clear hy144
                  replace H := Option.bind_eq_some_iff.mp H
                  obtain ⟨⟨t148, t149⟩, A700, H⟩ := H
                  replace H : (if 0 ≤ (wrap64 (t143 + 1)) then (if (wrap64 (t143 + 1)) ≤ (l0.length : Int) then ((joints_Check.f (l0.take ((wrap64 (t143 + 1)) : Int).toNat)).bind fun bt154 => (if t142 = 280 then (if t148 = 0 then (if t149 = 0 then (if bt154.1 = t142 then (some (bt154.2 == t143)) else (some false)) else (some false)) else (some false)) else (some false))) else (none)) else (none)) = some r := H
                  have A70 := Aside0.mk A700
                  clear A700
                  obtain ⟨ji71, hji71⟩ : ∃ j_ : Int, (wrap64 (t143 + 1)) = j_ := ⟨_, rfl⟩
                  replace H : (if 0 ≤ (ji71) then (if (ji71) ≤ (l0.length : Int) then ((joints_Check.f (l0.take ((ji71) : Int).toNat)).bind fun bt154 => (if t142 = 280 then (if t148 = 0 then (if t149 = 0 then (if bt154.1 = t142 then (some (bt154.2 == t143)) else (some false)) else (some false)) else (some false)) else (some false))) else (none)) else (none)) = some r := by first | (rw [hji71] at H; exact H) | (simp only [hji71] at H ⊢; exact H)
                  (try rw [hji71] at A70)
                  have hji71w : (IntKind.i64.wrap (t143 + 1)) = ji71 := (i64_w _).trans hji71
                  by_cases c72 : 0 ≤ (ji71)
                  · rw [if_pos c72] at H
                    have c72b0 := eq_true c72
                    have c72b1 : decide (0 ≤ (ji71)) = true := decide_eq_true c72
                    clear c72
                    by_cases c73 : (ji71) ≤ (l0.length : Int)
                    · rw [if_pos c73] at H
                      have c73b0 := eq_true c73
                      have c73b1 : decide ((ji71) ≤ (l0.length : Int)) = true := decide_eq_true c73
                      clear c73
                      obtain ⟨y150, hy150⟩ : ∃ y_ : List (S33), y_ = (l0.take ((ji71) : Int).toNat) := ⟨_, rfl⟩
                      replace H : ((joints_Check.f y150).bind fun bt154 => (if t142 = 280 then (if t148 = 0 then (if t149 = 0 then (if bt154.1 = t142 then (some (bt154.2 == t143)) else (some false)) else (some false)) else (some false)) else (some false))) = some r := by first | (rw [hy150]; with_reducible exact H) | (have H2_ := (Option.bind_some _ _).symm.trans H; rw [hy150]; with_reducible exact H2_) | (have H2_ := (Option.bind_some _ _).symm.trans H; with_reducible exact H2_) | with_reducible exact H | (rw [hy150]; exact H) | exact H
                      have Ny150 := Aside0.mk hy150
                      clear hy150
                      replace H := Option.bind_eq_some_iff.mp H
                      obtain ⟨⟨t154, t155⟩, A740, H⟩ := H
                      replace H : (if t142 = 280 then (if t148 = 0 then (if t149 = 0 then (if t154 = t142 then (some (t155 == t143)) else (some false)) else (some false)) else (some false)) else (some false)) = some r := H
                      have A74 := Aside0.mk A740
                      clear A740
                      by_cases c75 : t142 = 280
                      · rw [if_pos c75] at H
                        have c75b0 : (t142 == 280) = true := beq_iff_eq.mpr c75
                        have c75b1 : (t142 != 280) = false := bne_eq_false_iff_eq.mpr c75
                        clear c75
                        by_cases c76 : t148 = 0
                        · rw [if_pos c76] at H
                          have c76b0 : (t148 == 0) = true := beq_iff_eq.mpr c76
                          have c76b1 : (t148 != 0) = false := bne_eq_false_iff_eq.mpr c76
                          clear c76
                          by_cases c77 : t149 = 0
                          · rw [if_pos c77] at H
                            have c77b0 : (t149 == 0) = true := beq_iff_eq.mpr c77
                            have c77b1 : (t149 != 0) = false := bne_eq_false_iff_eq.mpr c77
                            clear c77
                            by_cases c78 : t154 = t142
                            · rw [if_pos c78] at H
                              have c78b0 : (t154 == t142) = true := beq_iff_eq.mpr c78
                              have c78b1 : (t154 != t142) = false := bne_eq_false_iff_eq.mpr c78
                              clear c78
                              obtain rfl := Option.some.inj H
                              have q79 : (t143 : Int) ≤ ((l0.length : Int) : Int) := of_decide_eq_true (by first | (with_reducible assumption) | assumption)
                              obtain ⟨i079, hi079, _, hsz79, _⟩ := info_parts info33
                              have hroom79 : l0.length ≤ c0 := HC0.out
                              have hC79 : Kd.C k33 _ A0 l0.length l0 := HR0.out
                              have hcut79 := cut_to (P := Tryd.prog) 22 33 .i64 Tryd.underlying22 hi079 A0 l0.length c0 t143 (of_decide_eq_true (by first | (with_reducible assumption) | assumption)) q79 hroom79
                              have hr79 := Kd.C_take (m := (t143 : Int).toNat) hC79 (by omega)
                              have hy79 : y144.length = (t143 : Int).toNat := (by rw [Ny144.out, List.length_take]; omega)
                              rw [← Ny144.out] at hr79
                              rw [← hy79] at hcut79
                              have HR147 := Aside0.mk hr79
                              have HC147 := Aside0.mk (show y144.length ≤ c0 from by omega)
                              clear hr79 hC79 hroom79 hi079 hsz79
                              have KY79 := Aside0.mk hy79
                              clear hy79
                              replace q79 := eq_true q79
                              go_wp2_with (first | ((with_reducible refine gate_callee (f := 9) rfl ?_); refine goesL_ (some 55) rfl rfl Tryd.func9 (by kernel_rfl) rfl #[.slice A0 y144.length c0] rfl (by (try simp only [List.map_toArray, List.map_cons, List.map_nil]); first | done | rfl | (simp only [List.length_drop, List.length_take]; rfl)) ?_; (with_reducible refine (joints_Check.calls _ _ y144 t148 t149 _ ?side1 ?side2 A70.out).mono ?_); (case side1 => repeat (first | exact (Kd.C_below HR147.out HB.out) | (with_reducible refine Kd.C_alloc ?_ _) | (with_reducible refine Kd.C_drewN ?_ _) | (with_reducible refine Kd.C_drew ?_))); (case side2 => exact HC147.out); rintro e w80 ⟨rfl, hb⟩; refine ⟨_, rfl, ?_⟩; have n0_ := Aside0.mk (below_step (by repeat (first | (with_reducible first | exact HB.out | apply below_alloc | apply pw_below_drewN | apply below_drew1) | exact HB.out)) hb); clear HB; have HB := n0_; clear n0_; (try clear hb); (try clear hb2); (try clear hk); (try clear hi); have q81 : ((ji71) : Int) ≤ ((l0.length : Int) : Int) := of_decide_eq_true (by first | (with_reducible assumption) | assumption); obtain ⟨i081, hi081, _, hsz81, _⟩ := info_parts info33; have hroom81 : l0.length ≤ c0 := HC0.out; have hC81 : Kd.C k33 _ A0 l0.length l0 := HR0.out; have hcut81 := cut_to (P := Tryd.prog) 22 33 .i64 Tryd.underlying22 hi081 A0 l0.length c0 (ji71) (of_decide_eq_true (by first | (with_reducible assumption) | assumption)) q81 hroom81; have hr81 := Kd.C_take (m := ((ji71) : Int).toNat) hC81 (by omega); have hy81 : y150.length = ((ji71) : Int).toNat := (by rw [Ny150.out, List.length_take]; omega); rw [← Ny150.out] at hr81; rw [← hy81] at hcut81; have HR153 := Aside0.mk hr81; have HC153 := Aside0.mk (show y150.length ≤ c0 from by omega); clear hr81 hC81 hroom81 hi081 hsz81; have KY81 := Aside0.mk hy81; clear hy81; replace q81 := eq_true q81) | ((with_reducible refine gate_callee (f := 9) rfl ?_); refine goesL_ (some 63) rfl rfl Tryd.func9 (by kernel_rfl) rfl #[.slice A0 y150.length c0] rfl (by (try simp only [List.map_toArray, List.map_cons, List.map_nil]); first | done | rfl | (simp only [List.length_drop, List.length_take]; rfl)) ?_; (with_reducible refine (joints_Check.calls _ _ y150 t154 t155 _ ?side1 ?side2 A74.out).mono ?_); (case side1 => repeat (first | exact (Kd.C_below HR153.out HB.out) | (with_reducible refine Kd.C_alloc ?_ _) | (with_reducible refine Kd.C_drewN ?_ _) | (with_reducible refine Kd.C_drew ?_))); (case side2 => exact HC153.out); rintro e w82 ⟨rfl, hb⟩; refine ⟨_, rfl, ?_⟩; have n0_ := Aside0.mk (below_step (by repeat (first | (with_reducible first | exact HB.out | apply below_alloc | apply pw_below_drewN | apply below_drew1) | exact HB.out)) hb); clear HB; have HB := n0_; clear n0_; (try clear hb); (try clear hb2); (try clear hk); (try clear hi)))
                              go_ret
                              exact ⟨by first | rfl | (simp [errW_none, errW_some] <;> rfl) | (simp only [← hji71]; first | rfl | (simp [errW_none, errW_some] <;> rfl)) | (simp [*, errW_none, errW_some] <;> rfl), by repeat (first | (with_reducible first | exact HB.out | apply below_alloc | apply pw_below_drewN | apply below_drew1) | exact HB.out)⟩
                            · rw [if_neg c78] at H
                              have c78b0 : (t154 == t142) = false := beq_eq_false_iff_ne.mpr c78
                              have c78b1 : (t154 != t142) = true := bne_iff_ne.mpr c78
                              obtain rfl := Option.some.inj H
                              have q83 : (t143 : Int) ≤ ((l0.length : Int) : Int) := of_decide_eq_true (by first | (with_reducible assumption) | assumption)
                              obtain ⟨i083, hi083, _, hsz83, _⟩ := info_parts info33
                              have hroom83 : l0.length ≤ c0 := HC0.out
                              have hC83 : Kd.C k33 _ A0 l0.length l0 := HR0.out
                              have hcut83 := cut_to (P := Tryd.prog) 22 33 .i64 Tryd.underlying22 hi083 A0 l0.length c0 t143 (of_decide_eq_true (by first | (with_reducible assumption) | assumption)) q83 hroom83
                              have hr83 := Kd.C_take (m := (t143 : Int).toNat) hC83 (by omega)
                              have hy83 : y144.length = (t143 : Int).toNat := (by rw [Ny144.out, List.length_take]; omega)
                              rw [← Ny144.out] at hr83
                              rw [← hy83] at hcut83
                              have HR147 := Aside0.mk hr83
                              have HC147 := Aside0.mk (show y144.length ≤ c0 from by omega)
                              clear hr83 hC83 hroom83 hi083 hsz83
                              have KY83 := Aside0.mk hy83
                              clear hy83
                              replace q83 := eq_true q83
                              go_wp2_with (first | ((with_reducible refine gate_callee (f := 9) rfl ?_); refine goesL_ (some 55) rfl rfl Tryd.func9 (by kernel_rfl) rfl #[.slice A0 y144.length c0] rfl (by (try simp only [List.map_toArray, List.map_cons, List.map_nil]); first | done | rfl | (simp only [List.length_drop, List.length_take]; rfl)) ?_; (with_reducible refine (joints_Check.calls _ _ y144 t148 t149 _ ?side1 ?side2 A70.out).mono ?_); (case side1 => repeat (first | exact (Kd.C_below HR147.out HB.out) | (with_reducible refine Kd.C_alloc ?_ _) | (with_reducible refine Kd.C_drewN ?_ _) | (with_reducible refine Kd.C_drew ?_))); (case side2 => exact HC147.out); rintro e w84 ⟨rfl, hb⟩; refine ⟨_, rfl, ?_⟩; have n0_ := Aside0.mk (below_step (by repeat (first | (with_reducible first | exact HB.out | apply below_alloc | apply pw_below_drewN | apply below_drew1) | exact HB.out)) hb); clear HB; have HB := n0_; clear n0_; (try clear hb); (try clear hb2); (try clear hk); (try clear hi); have q85 : ((ji71) : Int) ≤ ((l0.length : Int) : Int) := of_decide_eq_true (by first | (with_reducible assumption) | assumption); obtain ⟨i085, hi085, _, hsz85, _⟩ := info_parts info33; have hroom85 : l0.length ≤ c0 := HC0.out; have hC85 : Kd.C k33 _ A0 l0.length l0 := HR0.out; have hcut85 := cut_to (P := Tryd.prog) 22 33 .i64 Tryd.underlying22 hi085 A0 l0.length c0 (ji71) (of_decide_eq_true (by first | (with_reducible assumption) | assumption)) q85 hroom85; have hr85 := Kd.C_take (m := ((ji71) : Int).toNat) hC85 (by omega); have hy85 : y150.length = ((ji71) : Int).toNat := (by rw [Ny150.out, List.length_take]; omega); rw [← Ny150.out] at hr85; rw [← hy85] at hcut85; have HR153 := Aside0.mk hr85; have HC153 := Aside0.mk (show y150.length ≤ c0 from by omega); clear hr85 hC85 hroom85 hi085 hsz85; have KY85 := Aside0.mk hy85; clear hy85; replace q85 := eq_true q85) | ((with_reducible refine gate_callee (f := 9) rfl ?_); refine goesL_ (some 63) rfl rfl Tryd.func9 (by kernel_rfl) rfl #[.slice A0 y150.length c0] rfl (by (try simp only [List.map_toArray, List.map_cons, List.map_nil]); first | done | rfl | (simp only [List.length_drop, List.length_take]; rfl)) ?_; (with_reducible refine (joints_Check.calls _ _ y150 t154 t155 _ ?side1 ?side2 A74.out).mono ?_); (case side1 => repeat (first | exact (Kd.C_below HR153.out HB.out) | (with_reducible refine Kd.C_alloc ?_ _) | (with_reducible refine Kd.C_drewN ?_ _) | (with_reducible refine Kd.C_drew ?_))); (case side2 => exact HC153.out); rintro e w86 ⟨rfl, hb⟩; refine ⟨_, rfl, ?_⟩; have n0_ := Aside0.mk (below_step (by repeat (first | (with_reducible first | exact HB.out | apply below_alloc | apply pw_below_drewN | apply below_drew1) | exact HB.out)) hb); clear HB; have HB := n0_; clear n0_; (try clear hb); (try clear hb2); (try clear hk); (try clear hi)))
                              go_ret
                              exact ⟨by first | rfl | (simp [errW_none, errW_some] <;> rfl) | (simp only [← hji71]; first | rfl | (simp [errW_none, errW_some] <;> rfl)) | (simp [*, errW_none, errW_some] <;> rfl), by repeat (first | (with_reducible first | exact HB.out | apply below_alloc | apply pw_below_drewN | apply below_drew1) | exact HB.out)⟩
                          · rw [if_neg c77] at H
                            have c77b0 : (t149 == 0) = false := beq_eq_false_iff_ne.mpr c77
                            have c77b1 : (t149 != 0) = true := bne_iff_ne.mpr c77
                            obtain rfl := Option.some.inj H
                            have q87 : (t143 : Int) ≤ ((l0.length : Int) : Int) := of_decide_eq_true (by first | (with_reducible assumption) | assumption)
                            obtain ⟨i087, hi087, _, hsz87, _⟩ := info_parts info33
                            have hroom87 : l0.length ≤ c0 := HC0.out
                            have hC87 : Kd.C k33 _ A0 l0.length l0 := HR0.out
                            have hcut87 := cut_to (P := Tryd.prog) 22 33 .i64 Tryd.underlying22 hi087 A0 l0.length c0 t143 (of_decide_eq_true (by first | (with_reducible assumption) | assumption)) q87 hroom87
                            have hr87 := Kd.C_take (m := (t143 : Int).toNat) hC87 (by omega)
                            have hy87 : y144.length = (t143 : Int).toNat := (by rw [Ny144.out, List.length_take]; omega)
                            rw [← Ny144.out] at hr87
                            rw [← hy87] at hcut87
                            have HR147 := Aside0.mk hr87
                            have HC147 := Aside0.mk (show y144.length ≤ c0 from by omega)
                            clear hr87 hC87 hroom87 hi087 hsz87
                            have KY87 := Aside0.mk hy87
                            clear hy87
                            replace q87 := eq_true q87
                            go_wp2_with (first | ((with_reducible refine gate_callee (f := 9) rfl ?_); refine goesL_ (some 55) rfl rfl Tryd.func9 (by kernel_rfl) rfl #[.slice A0 y144.length c0] rfl (by (try simp only [List.map_toArray, List.map_cons, List.map_nil]); first | done | rfl | (simp only [List.length_drop, List.length_take]; rfl)) ?_; (with_reducible refine (joints_Check.calls _ _ y144 t148 t149 _ ?side1 ?side2 A70.out).mono ?_); (case side1 => repeat (first | exact (Kd.C_below HR147.out HB.out) | (with_reducible refine Kd.C_alloc ?_ _) | (with_reducible refine Kd.C_drewN ?_ _) | (with_reducible refine Kd.C_drew ?_))); (case side2 => exact HC147.out); rintro e w88 ⟨rfl, hb⟩; refine ⟨_, rfl, ?_⟩; have n0_ := Aside0.mk (below_step (by repeat (first | (with_reducible first | exact HB.out | apply below_alloc | apply pw_below_drewN | apply below_drew1) | exact HB.out)) hb); clear HB; have HB := n0_; clear n0_; (try clear hb); (try clear hb2); (try clear hk); (try clear hi); have q89 : ((ji71) : Int) ≤ ((l0.length : Int) : Int) := of_decide_eq_true (by first | (with_reducible assumption) | assumption); obtain ⟨i089, hi089, _, hsz89, _⟩ := info_parts info33; have hroom89 : l0.length ≤ c0 := HC0.out; have hC89 : Kd.C k33 _ A0 l0.length l0 := HR0.out; have hcut89 := cut_to (P := Tryd.prog) 22 33 .i64 Tryd.underlying22 hi089 A0 l0.length c0 (ji71) (of_decide_eq_true (by first | (with_reducible assumption) | assumption)) q89 hroom89; have hr89 := Kd.C_take (m := ((ji71) : Int).toNat) hC89 (by omega); have hy89 : y150.length = ((ji71) : Int).toNat := (by rw [Ny150.out, List.length_take]; omega); rw [← Ny150.out] at hr89; rw [← hy89] at hcut89; have HR153 := Aside0.mk hr89; have HC153 := Aside0.mk (show y150.length ≤ c0 from by omega); clear hr89 hC89 hroom89 hi089 hsz89; have KY89 := Aside0.mk hy89; clear hy89; replace q89 := eq_true q89) | ((with_reducible refine gate_callee (f := 9) rfl ?_); refine goesL_ (some 63) rfl rfl Tryd.func9 (by kernel_rfl) rfl #[.slice A0 y150.length c0] rfl (by (try simp only [List.map_toArray, List.map_cons, List.map_nil]); first | done | rfl | (simp only [List.length_drop, List.length_take]; rfl)) ?_; (with_reducible refine (joints_Check.calls _ _ y150 t154 t155 _ ?side1 ?side2 A74.out).mono ?_); (case side1 => repeat (first | exact (Kd.C_below HR153.out HB.out) | (with_reducible refine Kd.C_alloc ?_ _) | (with_reducible refine Kd.C_drewN ?_ _) | (with_reducible refine Kd.C_drew ?_))); (case side2 => exact HC153.out); rintro e w90 ⟨rfl, hb⟩; refine ⟨_, rfl, ?_⟩; have n0_ := Aside0.mk (below_step (by repeat (first | (with_reducible first | exact HB.out | apply below_alloc | apply pw_below_drewN | apply below_drew1) | exact HB.out)) hb); clear HB; have HB := n0_; clear n0_; (try clear hb); (try clear hb2); (try clear hk); (try clear hi)))
                            go_ret
                            exact ⟨by first | rfl | (simp [errW_none, errW_some] <;> rfl) | (simp only [← hji71]; first | rfl | (simp [errW_none, errW_some] <;> rfl)) | (simp [*, errW_none, errW_some] <;> rfl), by repeat (first | (with_reducible first | exact HB.out | apply below_alloc | apply pw_below_drewN | apply below_drew1) | exact HB.out)⟩
                        · rw [if_neg c76] at H
                          have c76b0 : (t148 == 0) = false := beq_eq_false_iff_ne.mpr c76
                          have c76b1 : (t148 != 0) = true := bne_iff_ne.mpr c76
                          obtain rfl := Option.some.inj H
                          have q91 : (t143 : Int) ≤ ((l0.length : Int) : Int) := of_decide_eq_true (by first | (with_reducible assumption) | assumption)
                          obtain ⟨i091, hi091, _, hsz91, _⟩ := info_parts info33
                          have hroom91 : l0.length ≤ c0 := HC0.out
                          have hC91 : Kd.C k33 _ A0 l0.length l0 := HR0.out
                          have hcut91 := cut_to (P := Tryd.prog) 22 33 .i64 Tryd.underlying22 hi091 A0 l0.length c0 t143 (of_decide_eq_true (by first | (with_reducible assumption) | assumption)) q91 hroom91
                          have hr91 := Kd.C_take (m := (t143 : Int).toNat) hC91 (by omega)
                          have hy91 : y144.length = (t143 : Int).toNat := (by rw [Ny144.out, List.length_take]; omega)
                          rw [← Ny144.out] at hr91
                          rw [← hy91] at hcut91
                          have HR147 := Aside0.mk hr91
                          have HC147 := Aside0.mk (show y144.length ≤ c0 from by omega)
                          clear hr91 hC91 hroom91 hi091 hsz91
                          have KY91 := Aside0.mk hy91
                          clear hy91
                          replace q91 := eq_true q91
                          go_wp2_with (first | ((with_reducible refine gate_callee (f := 9) rfl ?_); refine goesL_ (some 55) rfl rfl Tryd.func9 (by kernel_rfl) rfl #[.slice A0 y144.length c0] rfl (by (try simp only [List.map_toArray, List.map_cons, List.map_nil]); first | done | rfl | (simp only [List.length_drop, List.length_take]; rfl)) ?_; (with_reducible refine (joints_Check.calls _ _ y144 t148 t149 _ ?side1 ?side2 A70.out).mono ?_); (case side1 => repeat (first | exact (Kd.C_below HR147.out HB.out) | (with_reducible refine Kd.C_alloc ?_ _) | (with_reducible refine Kd.C_drewN ?_ _) | (with_reducible refine Kd.C_drew ?_))); (case side2 => exact HC147.out); rintro e w92 ⟨rfl, hb⟩; refine ⟨_, rfl, ?_⟩; have n0_ := Aside0.mk (below_step (by repeat (first | (with_reducible first | exact HB.out | apply below_alloc | apply pw_below_drewN | apply below_drew1) | exact HB.out)) hb); clear HB; have HB := n0_; clear n0_; (try clear hb); (try clear hb2); (try clear hk); (try clear hi); have q93 : ((ji71) : Int) ≤ ((l0.length : Int) : Int) := of_decide_eq_true (by first | (with_reducible assumption) | assumption); obtain ⟨i093, hi093, _, hsz93, _⟩ := info_parts info33; have hroom93 : l0.length ≤ c0 := HC0.out; have hC93 : Kd.C k33 _ A0 l0.length l0 := HR0.out; have hcut93 := cut_to (P := Tryd.prog) 22 33 .i64 Tryd.underlying22 hi093 A0 l0.length c0 (ji71) (of_decide_eq_true (by first | (with_reducible assumption) | assumption)) q93 hroom93; have hr93 := Kd.C_take (m := ((ji71) : Int).toNat) hC93 (by omega); have hy93 : y150.length = ((ji71) : Int).toNat := (by rw [Ny150.out, List.length_take]; omega); rw [← Ny150.out] at hr93; rw [← hy93] at hcut93; have HR153 := Aside0.mk hr93; have HC153 := Aside0.mk (show y150.length ≤ c0 from by omega); clear hr93 hC93 hroom93 hi093 hsz93; have KY93 := Aside0.mk hy93; clear hy93; replace q93 := eq_true q93) | ((with_reducible refine gate_callee (f := 9) rfl ?_); refine goesL_ (some 63) rfl rfl Tryd.func9 (by kernel_rfl) rfl #[.slice A0 y150.length c0] rfl (by (try simp only [List.map_toArray, List.map_cons, List.map_nil]); first | done | rfl | (simp only [List.length_drop, List.length_take]; rfl)) ?_; (with_reducible refine (joints_Check.calls _ _ y150 t154 t155 _ ?side1 ?side2 A74.out).mono ?_); (case side1 => repeat (first | exact (Kd.C_below HR153.out HB.out) | (with_reducible refine Kd.C_alloc ?_ _) | (with_reducible refine Kd.C_drewN ?_ _) | (with_reducible refine Kd.C_drew ?_))); (case side2 => exact HC153.out); rintro e w94 ⟨rfl, hb⟩; refine ⟨_, rfl, ?_⟩; have n0_ := Aside0.mk (below_step (by repeat (first | (with_reducible first | exact HB.out | apply below_alloc | apply pw_below_drewN | apply below_drew1) | exact HB.out)) hb); clear HB; have HB := n0_; clear n0_; (try clear hb); (try clear hb2); (try clear hk); (try clear hi)))
                          go_ret
                          exact ⟨by first | rfl | (simp [errW_none, errW_some] <;> rfl) | (simp only [← hji71]; first | rfl | (simp [errW_none, errW_some] <;> rfl)) | (simp [*, errW_none, errW_some] <;> rfl), by repeat (first | (with_reducible first | exact HB.out | apply below_alloc | apply pw_below_drewN | apply below_drew1) | exact HB.out)⟩
                      · rw [if_neg c75] at H
                        have c75b0 : (t142 == 280) = false := beq_eq_false_iff_ne.mpr c75
                        have c75b1 : (t142 != 280) = true := bne_iff_ne.mpr c75
                        obtain rfl := Option.some.inj H
                        have q95 : (t143 : Int) ≤ ((l0.length : Int) : Int) := of_decide_eq_true (by first | (with_reducible assumption) | assumption)
                        obtain ⟨i095, hi095, _, hsz95, _⟩ := info_parts info33
                        have hroom95 : l0.length ≤ c0 := HC0.out
                        have hC95 : Kd.C k33 _ A0 l0.length l0 := HR0.out
                        have hcut95 := cut_to (P := Tryd.prog) 22 33 .i64 Tryd.underlying22 hi095 A0 l0.length c0 t143 (of_decide_eq_true (by first | (with_reducible assumption) | assumption)) q95 hroom95
                        have hr95 := Kd.C_take (m := (t143 : Int).toNat) hC95 (by omega)
                        have hy95 : y144.length = (t143 : Int).toNat := (by rw [Ny144.out, List.length_take]; omega)
                        rw [← Ny144.out] at hr95
                        rw [← hy95] at hcut95
                        have HR147 := Aside0.mk hr95
                        have HC147 := Aside0.mk (show y144.length ≤ c0 from by omega)
                        clear hr95 hC95 hroom95 hi095 hsz95
                        have KY95 := Aside0.mk hy95
                        clear hy95
                        replace q95 := eq_true q95
                        go_wp2_with (first | ((with_reducible refine gate_callee (f := 9) rfl ?_); refine goesL_ (some 55) rfl rfl Tryd.func9 (by kernel_rfl) rfl #[.slice A0 y144.length c0] rfl (by (try simp only [List.map_toArray, List.map_cons, List.map_nil]); first | done | rfl | (simp only [List.length_drop, List.length_take]; rfl)) ?_; (with_reducible refine (joints_Check.calls _ _ y144 t148 t149 _ ?side1 ?side2 A70.out).mono ?_); (case side1 => repeat (first | exact (Kd.C_below HR147.out HB.out) | (with_reducible refine Kd.C_alloc ?_ _) | (with_reducible refine Kd.C_drewN ?_ _) | (with_reducible refine Kd.C_drew ?_))); (case side2 => exact HC147.out); rintro e w96 ⟨rfl, hb⟩; refine ⟨_, rfl, ?_⟩; have n0_ := Aside0.mk (below_step (by repeat (first | (with_reducible first | exact HB.out | apply below_alloc | apply pw_below_drewN | apply below_drew1) | exact HB.out)) hb); clear HB; have HB := n0_; clear n0_; (try clear hb); (try clear hb2); (try clear hk); (try clear hi); have q97 : ((ji71) : Int) ≤ ((l0.length : Int) : Int) := of_decide_eq_true (by first | (with_reducible assumption) | assumption); obtain ⟨i097, hi097, _, hsz97, _⟩ := info_parts info33; have hroom97 : l0.length ≤ c0 := HC0.out; have hC97 : Kd.C k33 _ A0 l0.length l0 := HR0.out; have hcut97 := cut_to (P := Tryd.prog) 22 33 .i64 Tryd.underlying22 hi097 A0 l0.length c0 (ji71) (of_decide_eq_true (by first | (with_reducible assumption) | assumption)) q97 hroom97; have hr97 := Kd.C_take (m := ((ji71) : Int).toNat) hC97 (by omega); have hy97 : y150.length = ((ji71) : Int).toNat := (by rw [Ny150.out, List.length_take]; omega); rw [← Ny150.out] at hr97; rw [← hy97] at hcut97; have HR153 := Aside0.mk hr97; have HC153 := Aside0.mk (show y150.length ≤ c0 from by omega); clear hr97 hC97 hroom97 hi097 hsz97; have KY97 := Aside0.mk hy97; clear hy97; replace q97 := eq_true q97) | ((with_reducible refine gate_callee (f := 9) rfl ?_); refine goesL_ (some 63) rfl rfl Tryd.func9 (by kernel_rfl) rfl #[.slice A0 y150.length c0] rfl (by (try simp only [List.map_toArray, List.map_cons, List.map_nil]); first | done | rfl | (simp only [List.length_drop, List.length_take]; rfl)) ?_; (with_reducible refine (joints_Check.calls _ _ y150 t154 t155 _ ?side1 ?side2 A74.out).mono ?_); (case side1 => repeat (first | exact (Kd.C_below HR153.out HB.out) | (with_reducible refine Kd.C_alloc ?_ _) | (with_reducible refine Kd.C_drewN ?_ _) | (with_reducible refine Kd.C_drew ?_))); (case side2 => exact HC153.out); rintro e w98 ⟨rfl, hb⟩; refine ⟨_, rfl, ?_⟩; have n0_ := Aside0.mk (below_step (by repeat (first | (with_reducible first | exact HB.out | apply below_alloc | apply pw_below_drewN | apply below_drew1) | exact HB.out)) hb); clear HB; have HB := n0_; clear n0_; (try clear hb); (try clear hb2); (try clear hk); (try clear hi)))
                        go_ret
                        exact ⟨by first | rfl | (simp [errW_none, errW_some] <;> rfl) | (simp only [← hji71]; first | rfl | (simp [errW_none, errW_some] <;> rfl)) | (simp [*, errW_none, errW_some] <;> rfl), by repeat (first | (with_reducible first | exact HB.out | apply below_alloc | apply pw_below_drewN | apply below_drew1) | exact HB.out)⟩
                    · rw [if_neg c73] at H
                      exact absurd H (by simp)
                  · rw [if_neg c72] at H
                    exact absurd H (by simp)
                · rw [if_neg c69] at H
                  exact absurd H (by simp)
              · rw [if_neg c68] at H
                exact absurd H (by simp)
  · replace c5 := Bool.eq_false_iff.mpr c5
    subst c5
    have H1 : (some false) = some r := by rw [if_neg (show ¬ (false = true) by decide)] at H; exact H
    clear H
    have H := H1
    clear H1
    obtain rfl := Option.some.inj H
    go_enter Tryd.func5, Tryd.ntmps5
    go_wp2_with (first | ((with_reducible refine gate_callee (f := 12) rfl ?_); refine goesL_ (some 25) rfl rfl Tryd.func12 (by kernel_rfl) rfl #[] rfl (by (try simp only [List.map_toArray, List.map_cons, List.map_nil]); first | done | rfl | (simp only [List.length_drop, List.length_take]; rfl)) ?_; (with_reducible refine (girderlaw18_awake.calls  false _ A4.out).mono ?_); rintro e w99 ⟨rfl, hb⟩; refine ⟨_, rfl, ?_⟩; have n0_ := Aside0.mk (below_step (by repeat (first | (with_reducible first | exact HB.out | apply below_alloc | apply pw_below_drewN | apply below_drew1) | exact HB.out)) hb); clear HB; have HB := n0_; clear n0_; (try clear hb); (try clear hb2); (try clear hk); (try clear hi)))
    go_ret
    exact ⟨by first | rfl | (simp [errW_none, errW_some] <;> rfl) | (simp [*, errW_none, errW_some] <;> rfl), by repeat (first | (with_reducible first | exact HB.out | apply below_alloc | apply pw_below_drewN | apply below_drew1) | exact HB.out)⟩

end Go.Proofs.YtgljhgjjenengaaDoor.XJt

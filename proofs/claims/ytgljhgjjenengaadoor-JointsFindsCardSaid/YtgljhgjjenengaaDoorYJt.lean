/- Told for the printed functions of joints' laws: awake, joints' Check. -/
import Derived.Test.YtgljhgjjenengaaDoorXJt0
import Derived.Test.YtgljhgjjenengaaDoorJw
namespace Go.Proofs.YtgljhgjjenengaaDoor.XJt
open Go Go.RowKit
open Go.Proofs.YtgljhgjjenengaaDoorW.PrintWords (Kd)
set_option maxRecDepth 100000

def girderlaw18_awake.f : Option Bool := some true
theorem girderlaw18_awake.calls (r : Bool) (w : World) (h : girderlaw18_awake.f = some r) :
    Calls Tryd.prog 12 #[] w fun e w' => e = .returned (.bool r) ∧ Below w.heap.size w w' := by
  cases h
  exact awake_c w
def okJb (j : S33) : Bool := decide (j.f0.size ≤ 9223372036854775807) && ((Lit.int .i32 j.f1).wf && (Lit.int .i32 j.f2).wf)
def joints_Check.f (l0 : List S33) : Option (Int × Int) := if l0.all okJb = true then (if 16 < l0.length then some (3, 0) else some (chkL [] l0)) else none
theorem joints_Check.calls (A0 : Option Addr) (c0 : Nat) (l0 : List S33) (r1 r2 : Int) (w : World) (hr0 : Kd.C k33 w A0 l0.length l0) (_hc0 : l0.length ≤ c0) (h : joints_Check.f l0 = some (r1, r2)) :
    Calls Tryd.prog 9 #[.slice A0 l0.length c0] w fun e w' => e = .returned (.tuple #[.int .i64 r1, .int .i64 r2]) ∧ Below w.heap.size w w' := by
  unfold joints_Check.f at h
  by_cases hok : l0.all okJb = true
  · rw [if_pos hok] at h
    by_cases hl : 16 < l0.length
    · rw [if_pos hl] at h
      cases h
      clear hok hr0
      go_enter Tryd.func9, Tryd.ntmps9
      go_wp2
      go_ret2
      exact ⟨rfl, Below.refl _ _⟩
    · rw [if_neg hl] at h
      have e : chkL [] l0 = (r1, r2) := Option.some.inj h
      have hc := check_c A0 c0 l0 w hr0 (fun j hj => by
        have := List.all_eq_true.1 hok j hj
        unfold okJb at this
        simp only [Bool.and_eq_true, decide_eq_true_eq] at this
        exact ⟨this.1, this.2.1, this.2.2⟩) (by omega)
      rw [e] at hc
      exact hc
  · rw [if_neg hok] at h
    cases h
end Go.Proofs.YtgljhgjjenengaaDoor.XJt

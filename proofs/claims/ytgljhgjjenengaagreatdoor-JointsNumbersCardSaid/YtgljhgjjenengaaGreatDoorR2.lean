/- What roots and fused products answer; round's finite, plain, way. -/
import Derived.Test.YtgljhgjjenengaaGreatDoorR1
namespace Go.Proofs.YtgljhgjjenengaaGreatDoor
open Go Go.RowKit GFl Ieee
set_option maxRecDepth 100000
attribute [local go_sem] run_f64bits run_f64frombits run_neg_f64

theorem run_sqrt64 {x r : Nat} (h : double.sqrt x = some r) (w : World) : (callFunc 37 #[.float .f64 x]).run Tryz.prog w = .ok (.value (.float .f64 r)) w := by
  rw [run_callFunc_extern (P := Tryz.prog) (f := 37) (fn := Tryz.f37) (e := Extern.MathSqrt.sqrt) (by kernel_rfl) (by kernel_rfl) (by kernel_rfl) (by kernel_rfl) (by kernel_rfl)]
  have h' : FloatKind.f64.format.sqrt x = some r := h
  have e : Extern.MathSqrt.sqrt #[.float .f64 x] = (match FloatKind.f64.format.sqrt x with | some r => pure (.float .f64 r) | none => do pure (.float .f64 (← choose (.nanBits .f64 x x)))) := rfl
  rw [e, h']
  rfl
theorem sqrt_c {x r : Nat} (h : double.sqrt x = some r) (w : World) : Calls Tryz.prog 21 #[.float .f64 x] w fun e w' => e = .returned (.float .f64 r) ∧ w = w' := by
  have D := run_sqrt64 h
  clear h
  go_enter Tryz.func21, Tryz.ntmps21
  go_wp2
  go_ret
  exact ⟨rfl, rfl⟩
theorem run_fma64 {x y z r : Nat} (h : double.fma x y z = some r) (w : World) : (callFunc 26 #[.float .f64 x, .float .f64 y, .float .f64 z]).run Tryz.prog w = .ok (.value (.float .f64 r)) w := by
  rw [run_callFunc_extern (P := Tryz.prog) (f := 26) (fn := Tryz.f26) (e := Extern.MathFMA.fma) (by kernel_rfl) (by kernel_rfl) (by kernel_rfl) (by kernel_rfl) (by kernel_rfl)]
  have h' : FloatKind.f64.format.fma x y z = some r := h
  have e : Extern.MathFMA.fma #[.float .f64 x, .float .f64 y, .float .f64 z] = (match FloatKind.f64.format.fma x y z with
    | some r => pure (.float .f64 r)
    | none => do
      let (a, b) := if Extern.MathFMA.isNaN x then (x, y) else if Extern.MathFMA.isNaN y then (y, z) else (z, z)
      pure (.float .f64 (← choose (.nanBits .f64 a b)))) := rfl
  rw [e, h']
  rfl

/-- One of the four ways. -/
def wayI (m : Int) : Int := if m < 0 ∨ 3 < m then 0 else m
theorem way_c (m : Int) (w : World) : Calls Tryz.prog 20 #[.int .i8 m] w fun e w' => e = .returned (.int .i8 (wayI m)) ∧ w = w' := by
  go_enter Tryz.func20, Tryz.ntmps20
  go_wp2
  all_goals go_ret
  all_goals exact ⟨ret_int (by unfold wayI; grind), rfl⟩

/-- Floats that lie in a block. -/
def FRow (w : World) (b : Nat) (l : List Nat) : Prop := ∀ k, k < l.length → w.cell? ⟨b, k, none⟩ = some (.float .f64 (l.getD k 0))
theorem all_take {p : Nat → Bool} {l : List Nat} {k : Nat} (hk : k < l.length) (h : (l.take k).all p = true) (h1 : p (l.getD k 0) = true) : (l.take (k + 1)).all p = true := by
  rw [List.take_succ_eq_append_getElem hk, List.all_append, h]
  rw [List.getD_eq_getElem?_getD, List.getElem?_eq_getElem hk] at h1
  simpa using h1
theorem all_no {p : Nat → Bool} {l : List Nat} {k : Nat} (hk : k < l.length) (h1 : p (l.getD k 0) = false) : l.all p = false := by
  rw [List.getD_eq_getElem?_getD, List.getElem?_eq_getElem hk] at h1
  rw [List.all_eq_false]
  exact ⟨l[k], List.getElem_mem hk, by simpa using h1⟩
theorem getD_mem {l : List Nat} {k : Nat} (hk : k < l.length) : l.getD k 0 ∈ l := by
  rw [List.getD_eq_getElem?_getD, List.getElem?_eq_getElem hk]; exact List.getElem_mem hk
theorem finite_c (b : Nat) (l : List Nat) (hl : l.length ≤ 1000) (hw : ∀ x ∈ l, W64 x) (w : World) (hc : FRow w b l) :
    Calls Tryz.prog 22 #[.slice (some ⟨b, 0, none⟩) l.length l.length] w fun e w' => e = .returned (.bool (l.all fin)) ∧ w = w' := by
  have HC := Lib.hid hc
  have HW := Lib.hid hw
  clear hc hw
  go_enter Tryz.func22, Tryz.ntmps22
  go_wp2
  go_loop [7] (fun i => ∃ k : Nat, k ≤ l.length ∧ i = .int .i64 k ∧ Hid ((l.take k).all fin = true)) (fun i => l.length - (intOf i).toNat)
  case atStart => exact ⟨0, Nat.zero_le _, rfl, rfl⟩
  case round =>
    obtain ⟨k, hk, rfl, ha⟩ := hrel
    by_cases hlt : k < l.length
    · have hcell : w.cell? ⟨b, k, none⟩ = some (.float .f64 (l.getD k 0)) := HC.out k hlt
      have hx := HW.out _ (getD_mem hlt)
      have AL := Lib.hid (all_take (p := fin) hlt ha.out)
      have AN := Lib.hid (all_no (p := fin) hlt)
      generalize l.getD k 0 = x at *
      have e1 : fin x = (!isn x && !infS x 0) := by
        unfold fin infS
        rw [isn_eq, Bool.eq_iff_iff]; simp; omega
      have E1 := Lib.hid e1
      clear e1
      go_wp2_with (first | (go_at_call 38; refine (isNaN_c _ hx _).mono ?_; rintro e w' ⟨rfl, hw⟩; obtain rfl := hw.symm) | (go_at_call 39; refine (isInf_c _ _ hx _).mono ?_; rintro e w' ⟨rfl, hw⟩; obtain rfl := hw.symm))
      all_goals first
        | (go_ret; exact ⟨ret_bool (AN.out (by rw [E1.out]; simp [*])).symm, rfl⟩)
        | (go_round
           case rel => exact ⟨k + 1, by omega, by go_num, AL.out (by rw [E1.out]; simp [*])⟩
           case measure => simp [intOf]; omega)
    · have : k = l.length := by omega
      subst this
      go_wp2
      go_ret
      exact ⟨ret_bool (by have := ha.out; rw [List.take_length] at this; exact this.symm), rfl⟩

/-- A float of middling size. -/
def plainF (x : Nat) : Bool := decide (200 ≤ rg x / 4503599627370496 ∧ rg x / 4503599627370496 ≤ 1900)
theorem u64_low11 (y : Nat) (h : y < 18446744073709551616) : bits BinOp.and IntKind.u64 (y : Int) 2047 = ((y % 2048 : Nat) : Int) := by
  have := u64_and_nat y 2047 h (by decide)
  rw [show ((2047 : Nat) : Int) = 2047 from rfl] at this
  rw [this]
  congr 1
  exact Nat.and_two_pow_sub_one_eq_mod y 11
theorem plain_c (b : Nat) (l : List Nat) (hl : l.length ≤ 1000) (hw : ∀ x ∈ l, W64 x) (w : World) (hc : FRow w b l) :
    Calls Tryz.prog 23 #[.slice (some ⟨b, 0, none⟩) l.length l.length] w fun e w' => e = .returned (.bool (l.all plainF)) ∧ w = w' := by
  have HC := Lib.hid hc
  have HW := Lib.hid hw
  clear hc hw
  go_enter Tryz.func23, Tryz.ntmps23
  go_wp2
  go_loop [8] (fun i => ∃ k : Nat, k ≤ l.length ∧ i = .int .i64 k ∧ Hid ((l.take k).all plainF = true)) (fun i => l.length - (intOf i).toNat)
  case atStart => exact ⟨0, Nat.zero_le _, rfl, rfl⟩
  case round =>
    obtain ⟨k, hk, rfl, ha⟩ := hrel
    by_cases hlt : k < l.length
    · have hcell : w.cell? ⟨b, k, none⟩ = some (.float .f64 (l.getD k 0)) := HC.out k hlt
      have hx := HW.out _ (getD_mem hlt)
      have AL := Lib.hid (all_take (p := plainF) hlt ha.out)
      have AN := Lib.hid (all_no (p := plainF) hlt)
      generalize l.getD k 0 = x at *
      have eb : bits BinOp.and IntKind.u64 ((x : Int) / 4503599627370496) 2047 = ((rg x / 4503599627370496 : Nat) : Int) := by
        have h := hx.lt
        have := u64_low11 (x / 4503599627370496) (by omega)
        rw [show ((x / 4503599627370496 : Nat) : Int) = (x : Int) / 4503599627370496 by omega] at this
        rw [this, rg_eq]
        congr 1
        omega
      have EB := Lib.hid eb
      clear eb
      go_wp2
      all_goals simp only [EB.out] at *
      all_goals first
        | (go_ret; exact ⟨ret_bool (AN.out (by unfold plainF; simp; omega)).symm, rfl⟩)
        | (go_round
           case rel => exact ⟨k + 1, by omega, by go_num, AL.out (by unfold plainF; simp; omega)⟩
           case measure => simp [intOf]; omega)
    · have : k = l.length := by omega
      subst this
      go_wp2
      go_ret
      exact ⟨ret_bool (by have := ha.out; rw [List.take_length] at this; exact this.symm), rfl⟩
end Go.Proofs.YtgljhgjjenengaaGreatDoor

/- Words of this session's walks: floats' operations, the functions of math that have no Go text. -/
import Derived.Test.YtgljhgjjenengaaGreatDoorRows
import Derived.WalkKit
import Derived.WalkLawsBesides
import Derived.Laws.Externs
import Derived.Lib.Hide
import Derived.Deep.QuietTactic
import Derived.BigQuiet
import Derived.Deep.Light
import Derived.Test.YtgljhgjjenengaaGreatDoorF64
namespace Go.Proofs.YtgljhgjjenengaaGreatDoor
open Go Go.RowKit
set_option maxRecDepth 100000

/-- Nothing but draws. -/
structure Dr (w w' : World) : Prop where mk :: (out : ∃ n, w' = w.drewN n)
theorem Dr.refl (w : World) : Dr w w := ⟨⟨0, rfl⟩⟩
theorem Dr.n (w : World) (n : Nat) : Dr w (w.drewN n) := ⟨⟨n, rfl⟩⟩
theorem Dr.step {w w' : World} (h : Dr w w') (n : Nat) : Dr w (w'.drewN n) := by
  obtain ⟨m, rfl⟩ := h
  exact ⟨⟨m + n, World.drewN_drewN ..⟩⟩
theorem Dr.trans {w w1 w2 : World} (h : Dr w w1) (h' : Dr w1 w2) : Dr w w2 := by
  obtain ⟨m, rfl⟩ := h'
  exact h.step m
theorem Dr.below {w w' : World} (h : Dr w w') : Below w.heap.size w w' := by
  obtain ⟨n, rfl⟩ := h
  induction n with
  | zero => exact Below.refl _ _
  | succ n ih => rw [← World.drew_drewN]; exact ih.drew

/-- What a float's operation gives: the bits that the standard says; where it says none: some NaN. -/
def FR (k : FloatKind) (o : Option Nat) (r : Nat) : Prop := match o with
  | some z => r = z
  | none => k.format.infRung < r % k.format.signWeight ∧ r < 2 ^ k.format.width

/-- The operations of arithmetic. -/
def arith : BinOp → Bool
  | .add | .sub | .mul | .quo => true
  | _ => false

theorem run_arith {P : Program} (op : BinOp) (t : TypeId) (k : FloatKind) (x y : Nat) (w : World) (h : arith op = true) :
    ∃ r n, FR k (floatBits op k x y) r ∧ (binOp op t (.float k x) (.float k y)).run P w = .ok (.float k r) (w.drewN n) := by
  cases hb : floatBits op k x y with
  | some z =>
    exact ⟨z, 0, rfl, run_float_arith w op t k x y z hb⟩
  | none =>
    have e : (binOp op t (.float k x) (.float k y)).run P w = .ok (.float k ((Question.nanBits k x y).cut (w.tape w.drawn (.nanBits k x y)))) (w.drewN 1) := by
      unfold floatBits at hb
      cases op <;> simp only [arith, Bool.false_eq_true] at h <;> simp only at hb <;> simp [binOp, Op.floatArith, hb, choose, Sem.run, Question.forced, World.drewN]
    refine ⟨_, 1, ?_, e⟩
    generalize w.tape w.drawn (.nanBits k x y) = t
    cases k
    · have e1 : FloatKind.f32.format.infRung = 2139095040 := by decide
      have e2 : FloatKind.f32.format.signWeight = 2147483648 := by decide
      have e3 : 2 ^ FloatKind.f32.format.width = 4294967296 := by decide
      simp only [FR, Question.cut, e1, e2, e3]
      have h2 : t % 2 = 0 ∨ t % 2 = 1 := by omega
      rcases h2 with h2 | h2 <;> rw [h2] <;> omega
    · have e1 : FloatKind.f64.format.infRung = 9218868437227405312 := by decide
      have e2 : FloatKind.f64.format.signWeight = 9223372036854775808 := by decide
      have e3 : 2 ^ FloatKind.f64.format.width = 18446744073709551616 := by decide
      simp only [FR, Question.cut, e1, e2, e3]
      have h2 : t % 2 = 0 ∨ t % 2 = 1 := by omega
      rcases h2 with h2 | h2 <;> rw [h2] <;> omega

theorem run_f64bits (b : Nat) (w : World) : (callFunc 17 #[.float .f64 b]).run Tryz.prog w = .ok (.value (.int .u64 b)) w := by
  rw [run_callFunc_extern (P := Tryz.prog) (f := 17) (fn := Tryz.f17) (e := Extern.MathFloatBits.float64bits) (by kernel_rfl) (by kernel_rfl) (by kernel_rfl) (by kernel_rfl) (by kernel_rfl)]
  rfl
theorem run_f64frombits (n : Int) (w : World) : (callFunc 54 #[.int .u64 n]).run Tryz.prog w = .ok (.value (.float .f64 n.toNat)) w := by
  rw [run_callFunc_extern (P := Tryz.prog) (f := 54) (fn := Tryz.f54) (e := Extern.MathFloatBits.float64frombits) (by kernel_rfl) (by kernel_rfl) (by kernel_rfl) (by kernel_rfl) (by kernel_rfl)]
  rfl

theorem run_neg_f64 {P : Program} (x : Nat) (w : World) : (Op.unary .neg (.float .f64 x)).run P w = .ok (.float .f64 (GFl.fneg x)) w := rfl

section
open GFl
theorem t_lt {x y : Nat} (hx : W64 x) (hy : W64 y) : (FloatKind.f64.format.order x y == some .lt) = (!isn x && !isn y && decide (plc x < plc y)) := o_lt hx hy
theorem t_gt {x y : Nat} (hx : W64 x) (hy : W64 y) : (FloatKind.f64.format.order x y == some .gt) = (!isn x && !isn y && decide (plc y < plc x)) := o_gt hx hy
theorem t_eq {x y : Nat} (hx : W64 x) (hy : W64 y) : (FloatKind.f64.format.order x y == some .eq) = (!isn x && !isn y && decide (plc x = plc y)) := o_eq hx hy
theorem t_le {x y : Nat} (hx : W64 x) (hy : W64 y) : (FloatKind.f64.format.order x y == some .lt || FloatKind.f64.format.order x y == some .eq) = (!isn x && !isn y && decide (plc x ≤ plc y)) := o_le hx hy
theorem t_ge {x y : Nat} (hx : W64 x) (hy : W64 y) : (FloatKind.f64.format.order x y == some .gt || FloatKind.f64.format.order x y == some .eq) = (!isn x && !isn y && decide (plc y ≤ plc x)) := o_ge hx hy
theorem t_ne {x y : Nat} (hx : W64 x) (hy : W64 y) : (FloatKind.f64.format.order x y != some .eq) = (isn x || isn y || decide (plc x ≠ plc y)) := o_ne hx hy
theorem t_ne_self {x : Nat} (hx : W64 x) : (FloatKind.f64.format.order x x != some .eq) = isn x := o_ne_self hx
theorem t_eq_self {x : Nat} (hx : W64 x) : (FloatKind.f64.format.order x x == some .eq) = !isn x := o_eq_self hx
end

theorem ret_int {k : IntKind} {a b : Int} (h : a = b) : Ending.returned (.int k a) = .returned (.int k b) := by rw [h]
theorem ret_bool {a b : Bool} (h : a = b) : Ending.returned (.bool a) = .returned (.bool b) := by rw [h]
theorem ret_float {k : FloatKind} {a b : Nat} (h : a = b) : Ending.returned (.float k a) = .returned (.float k b) := by rw [h]
theorem ret_int_bool {k : IntKind} {a b : Int} {c d : Bool} (h : a = b) (h' : c = d) : Ending.returned (.tuple #[.int k a, .bool c]) = .returned (.tuple #[.int k b, .bool d]) := by rw [h, h']
theorem ret_float_bool {k : FloatKind} {a b : Nat} {c d : Bool} (h : a = b) (h' : c = d) : Ending.returned (.tuple #[.float k a, .bool c]) = .returned (.tuple #[.float k b, .bool d]) := by rw [h, h']
theorem ret_float_int {k : FloatKind} {q : IntKind} {a b : Nat} {c d : Int} (h : a = b) (h' : c = d) : Ending.returned (.tuple #[.float k a, .int q c]) = .returned (.tuple #[.float k b, .int q d]) := by rw [h, h']
theorem ret_int_int {k q : IntKind} {a b c d : Int} (h : a = b) (h' : c = d) : Ending.returned (.tuple #[.int k a, .int q c]) = .returned (.tuple #[.int k b, .int q d]) := by rw [h, h']

section
variable {P : Program} {ops : Array Oper} {Q : Exit → Act → World → Prop} {a : Act} {w : World} {rest : List Oper}
/-- A float's sum, difference, product or quotient: whatever bits it gives. -/
theorem wp_arith {dst : Option Tmp} {op : BinOp} {t t' ty : TypeId} {x y : Operand} {pos : String} {after : Array Edge} (k : FloatKind) (X Y : Nat)
    (hx : a.eval x = .float k X) (hy : a.eval y = .float k Y) (ha : arith op = true)
    (h : ∀ r n, FR k (floatBits op k X Y) r → wpList P ops Q rest (a.put dst (.float k r)) (w.drewN n)) :
    wpList P ops Q (⟨dst, .binOp op t x y t', ty, pos, after, none⟩ :: rest) a w := by
  refine wpList_plain rfl fun K hK => ?_
  obtain ⟨r, n, hr, e⟩ := run_arith (P := P) op t k X Y w ha
  have := hK _ _ (h r n hr)
  unfold Oper.wp
  have e2 : (execOp a.eval ⟨dst, .binOp op t x y t', ty, pos, after, none⟩).run P w = .ok (.value (.float k r)) (w.drewN n) := by
    have eg : eqGuard op t x y (.float k X) (.float k Y) = pure () := by cases op <;> first | rfl | simp [arith] at ha
    simp only [execOp, hx, hy, eg]
    simp [e, Result.andThen]
  rw [e2]
  exact this
end
end Go.Proofs.YtgljhgjjenengaaGreatDoor

/- girderkit.LentJoints: a copy of the list with twelve marked joints behind it. -/
import Derived.Test.YtgljhgjjenengaaDoorYJt
import Derived.Test.YtgljhgjjenengaaDoorXJt2
namespace Go.Proofs.YtgljhgjjenengaaDoor
open Go Go.RowKit
open Go.Proofs.YtgljhgjjenengaaDoorW.PrintWords (Kd own_move)
open XJt (S33 k33 info33 girderkit_markJoint.f girderkit_markJoint.calls girderkit_markText.f)
set_option maxRecDepth 100000

theorem cut_lent {P : Program} (t e : TypeId) (kh : IntKind) {i : TypeInfo} (ht : P.underlying t = some (.slice e)) (hi : P.info? e = some i) (A : Option Addr) (n c : Nat) (j : Int) (h0 : 0 ≤ j) (hm : j ≤ c) :
    ∀ W : World, (Instr.slice t (.slice A n c) none (some (.int kh j)) none).run P W = .ok (.slice A j.toNat c) W := by
  intro W
  have hel : P.elem t = e := by simp [Program.elem, ht]
  have hu : P.underlying t = some (.slice (P.elem t)) := by rw [hel]; exact ht
  have ha : (A.map fun x => x.add 0) = A := by cases A <;> simp [Addr.add]
  rw [run_slice_h W t A n c hu kh j h0 (by omega), hel]
  simp [sizeOf, typeInfo, hi, sliced, Result.andThen, ha]
/-- The k-th marked joint. -/
def mkJ (k : Int) : S33 := ⟨strOfNums [35, 1 % 256, (1 / 256) % 256, (1 / 65536) % 256, 47, k % 256, (k / 256) % 256, (k / 65536) % 256], 0, 0, 0⟩
theorem mkJ_f (k : Int) : girderkit_markJoint.f 1 k = some ((mkJ k).f0, 0, 0, 0) := rfl
def marks (n : Nat) : List S33 := (List.range n).map fun i : Nat => mkJ i
theorem marks_succ (n : Nat) : marks (n + 1) = marks n ++ [mkJ n] := by simp [marks, List.range_succ]
theorem marks_len (n : Nat) : (marks n).length = n := by simp [marks]
theorem jc_len (l : List S33) : (l.flatMap jc).length = l.length * 4 := by
  induction l with
  | nil => rfl
  | cons a l ih => rw [List.flatMap_cons, List.length_append, ih]; simp [jc]; omega
theorem jc_one (l : List S33) : ∀ u ∈ l.flatMap jc, u.oneCell' = true := by
  intro u hu
  obtain ⟨j, _, hj⟩ := List.mem_flatMap.1 hu
  simp [jc] at hj
  rcases hj with rfl | rfl | rfl | rfl <;> rfl
theorem jc_ex (l : List S33) (m : Nat) (u : Value) (h : (l.flatMap jc)[m]? = some u) : ∃ k i j, m = k * 4 + i ∧ i < 4 ∧ l[k]? = some j ∧ (jc j)[i]? = some u := by
  have hm : m < l.length * 4 := by rw [← jc_len]; exact (List.getElem?_eq_some_iff.1 h).1
  have hk : m / 4 < l.length := by omega
  have e : m = m / 4 * 4 + m % 4 := by omega
  have hj := List.getElem?_eq_getElem hk
  refine ⟨m / 4, m % 4, l[m / 4], e, Nat.mod_lt _ (by omega), hj, ?_⟩
  rw [← jc_at l (m / 4) (m % 4) _ hj (Nat.mod_lt _ (by omega)), ← e]
  exact h
theorem C_cells {w : World} {ad : Addr} {l : List S33} (h : Kd.C k33 w (some ad) l.length l) (m : Nat) (u : Value) (hu : (l.flatMap jc)[m]? = some u) : w.cell? (ad.add m) = some u := by
  obtain ⟨k, i, j, rfl, hi, hj, hji⟩ := jc_ex l m u hu
  obtain ⟨ad', e, hc⟩ := h.2.2 (by have := (List.getElem?_eq_some_iff.1 hj).1; omega)
  cases e
  obtain ⟨cs, _, hK, hcs⟩ := hc k j hj
  have := XJt.k33_open hK
  subst this
  exact hcs i u hji
theorem lent_c {W : World} (A : Option Addr) (c : Nat) (l : List S33) (hC : Kd.C k33 W A l.length l) (hA : A = none → c = 0 ∧ l = []) (hB : l.length * 32 ≤ 140737488351232) :
    Calls Tryd.prog 8 #[.slice A l.length c] W fun e w' => ∃ g, e = .returned (.slice (some ⟨g, 0, none⟩) l.length (l.length + 12)) ∧ W.heap.size ≤ g ∧ w'.ownsRow W.heap.size 33 4 (.slice (some ⟨g, 0, none⟩) (l.length + 12) (l.length + 12)) (l.length + 12) ((l ++ marks 12).flatMap jc) ∧ Below W.heap.size W w' := by
  obtain ⟨i0, hi, hz0, hz1, hz2⟩ := info_parts info33
  have HC := Lib.hid hC
  have HA := Lib.hid hA
  have hcut := cut_lent (P := Tryd.prog) 22 33 .i64 Tryd.underlying22 hi (some ⟨W.heap.size, 0, none⟩) (l.length + 12) (l.length + 12) (l.length : Int) (by omega) (by omega)
  rw [Int.toNat_natCast] at hcut
  have hw : IntKind.i64.wrap ((l.length : Int) + 12) = ((l.length + 12 : Nat) : Int) := by rw [IntKind.wrap_i64]; omega
  clear hC hA
  go_enter Tryd.func8, Tryd.ntmps8
  go_wp2_with (first
    | (at_make; go_loud (refine wpList_make_own _ rfl _ _ 22 rfl W.heap.size 33 i0 _ 4 Tryd.underlying22 hi hz0 hz1 .i64 .i64 _ (l.length + 12) rfl rfl (by first | exact hw | omega) (by rw [hz2]; omega) (by unfold maxLen; omega) (Nat.le_refl _) ?_); intro w0 hown0 hgrow0
       have B0 := Lib.hid ((Below.refl W.heap.size W).grown hgrow0 (Nat.le_refl _) (fun k h => by cases h)))
    | (at_builtin; refine wpList_append_fits_any _ rfl _ _ 22 rfl W.heap.size 33 i0 4 Tryd.underlying22 hi hz1 W.heap.size 0 (l.length + 12) [] rfl hown0 A l.length c (l.flatMap jc) rfl (jc_len l) (fun h => ⟨by rw [(HA.out h).2]; rfl, (HA.out h).1⟩) (fun ad e m u hu => C_cells (w := w0) (by subst e; exact Kd.C_below HC.out B0.out) m u hu) (jc_one l) (by omega) ?_; intro w1 hown1 hgrow1
       replace B0 := Lib.hid (B0.out.grown hgrow1 (by have := B0.out.size; omega) (fun k h => by cases h; exact Nat.le_refl _))
       rw [Nat.zero_add, List.nil_append] at hown1
       rw [Nat.zero_add]
       clear hown0 hgrow0 hgrow1))
  have B1 := Lib.hid B0.out
  clear B0
  go_loopw [3, 4] (fun s v wr => ∃ k : Nat, k ≤ 12 ∧ v = .int .i64 k ∧ s = .slice (some ⟨W.heap.size, 0, none⟩) (l.length + k) (l.length + 12) ∧ wr.ownsRow W.heap.size 33 4 (.slice (some ⟨W.heap.size, 0, none⟩) (l.length + k) (l.length + 12)) (l.length + k) ((l ++ marks k).flatMap jc) ∧ Below W.heap.size W wr) (fun _ v _ => 12 - (intOf v).toNat)
  case atStart => exact ⟨0, by omega, rfl, rfl, by simpa [marks] using hown1, B1.out⟩
  case round =>
    obtain ⟨k, hk, rfl, rfl, hown, hb⟩ := hrel
    have HB := Lib.hid hb
    have hgs : W.heap.size < wr.heap.size := (hown.lt W.heap.size rfl).2
    clear hb hown1 B1
    have mj : ∀ w, Calls Tryd.prog 32 #[.int .i64 1, .int .i64 k] w fun e w' => e = .returned (.agg #[.string (mkJ k).f0, .int .i32 0, .int .i32 0, .int .u8 0]) ∧ Below w.heap.size w w' := fun w => girderkit_markJoint.calls 1 k _ _ _ _ w (mkJ_f k)
    go_wp2_with (first
      | (go_at_call 32; refine (mj _).mono ?_; rintro e w2 ⟨rfl, hb2⟩
         replace HB := Lib.hid (bl_then HB.out hb2)
         have own2 := own_move (w1 := w2) hown (fun b hb => hb2.block b (hown.lt b hb).2)
         clear hb2 hown)
      | (at_builtin; refine wpList_append_fits _ rfl _ _ 22 rfl W.heap.size 33 i0 4 Tryd.underlying22 hi hz1 W.heap.size (l.length + k) (l.length + 12) ((l ++ marks k).flatMap jc) rfl (own2.alloc _) ⟨w2.heap.size, 0, none⟩ 1 1 (jc (mkJ k)) rfl rfl (fun m u hu => by rw [add_blk]; exact kb_cell (c := #[.string (mkJ k).f0, .int .i32 0, .int .i32 0, .int .u8 0]) Array.getElem?_push_size (by simpa [jc, mkJ] using hu)) (by simpa using jc_one [mkJ k]) (by omega) ?_; intro w3 hown3 hgrow3
         replace HB := Lib.hid ((bl_alloc HB.out _).grown hgrow3 (by have := HB.out.size; simp; omega) (fun b h => by cases h; exact Nat.le_refl _))
         clear own2 hgrow3))
    · go_roundw
      case rel => exact ⟨k + 1, by omega, by go_num, by rw [Nat.add_assoc], by rw [marks_succ, ← List.append_assoc, List.flatMap_append, ← Nat.add_assoc]; simpa using hown3, HB.out⟩
      case measure => simp [intOf]; omega
    · obtain rfl : k = 12 := by omega
      go_ret
      exact ⟨W.heap.size, rfl, Nat.le_refl _, hown, HB.out⟩
end Go.Proofs.YtgljhgjjenengaaDoor

/- Maps that a call makes and asks by keys alone; joints' near. -/
import Derived.Test.YtgljhgjjenengaaGreatDoorJn
import Derived.Maps.Own
import Derived.Maps.OwnOps
import Derived.Maps.OwnSet
import Derived.DeepKeys5
namespace Go.Proofs.YtgljhgjjenengaaGreatDoor
open Go Go.RowKit Go.Maps Go.WideMaps
set_option maxRecDepth 100000

/-- Block b is a map of whole numbers of at most n entries whose keys are just those of S. -/
def KeysIn (w : World) (P : Program) (k e : TypeId) (b n : Nat) (S : List Value) : Prop :=
  ∃ D : DataW Unit, w.ownsMap P k (plainElem P e) b n D ∧ ∀ key kl, keyOf P k key = some kl → (Maps.has D kl = true ↔ key ∈ S)
section
variable {w w1 : World} {P : Program} {k e t : TypeId} {b n : Nat} {S : List Value}
theorem KeysIn.made (w : World) (P : Program) (k e : TypeId) : KeysIn (w.alloc (.map #[] 0)) P k e w.heap.size 0 [] :=
  ⟨_, World.ownsMap_made _ _ _ _, fun _ _ _ => by simp [Maps.has]⟩
theorem KeysIn.kept {row : Option Nat} (h : KeysIn w P k e b n S) (hg : w.grownBy w1 row) (hne : some b ≠ row) : KeysIn w1 P k e b n S := by
  obtain ⟨D, h1, h2⟩ := h
  exact ⟨D, h1.kept hg hne, h2⟩
theorem KeysIn.alloc (h : KeysIn w P k e b n S) (o : Obj) : KeysIn (w.alloc o) P k e b n S := by
  obtain ⟨D, h1, h2⟩ := h
  exact ⟨D, h1.alloc o, h2⟩
theorem KeysIn.drewN (h : KeysIn w P k e b n S) (m : Nat) : KeysIn (w.drewN m) P k e b n S := h
theorem KeysIn.drew (h : KeysIn w P k e b n S) : KeysIn w.drew P k e b n S := h
theorem KeysIn.below (h : KeysIn w P k e b n S) (hb : Below w.heap.size w w1) : KeysIn w1 P k e b n S :=
  h.kept (row := none) ⟨hb.os, hb.tape, hb.output, hb.size, fun i hi _ => hb.block i hi⟩ (by simp)
theorem KeysIn.lt (h : KeysIn w P k e b n S) : b < w.heap.size := by
  obtain ⟨D, h1, h2⟩ := h
  exact h1.lt
theorem KeysIn.look (h : KeysIn w P k e b n S) (K : Keyed P k) (ht : P.underlying t = some (.map k e)) (he : P.underlying e = some (.int .i64)) (hz : ∀ w, (zeroValue e).run P w = .ok (.int .i64 0) w)
    {key : Value} {kl : Lit} (hkey : keyOf P k key = some kl) : ∃ (c : Int) (q : Bool), (Instr.lookup t (.map (some b)) key true).run P w = .ok (.tuple #[.int .i64 c, .bool q]) w ∧ (q = true ↔ key ∈ S) := by
  obtain ⟨D, h1, h2⟩ := h
  obtain ⟨v, ps, hrun, hv⟩ := h1.look_ok K ht (hz w) (plainElem_int (H := Unit) he (by decide)) hkey
  obtain ⟨c, rfl, hc, hwc⟩ := plainElem_int_inv he hv
  exact ⟨c, _, hrun, h2 key kl hkey⟩
theorem KeysIn.store (h : KeysIn w P k e b n S) (K : Keyed P k) (ht : P.underlying t = some (.map k e)) (he : P.underlying e = some (.int .i64)) (hn : n < maxLen)
    {key : Value} {kl : Lit} (hkey : keyOf P k key = some kl) {v : Int} (hv : (Lit.int .i64 v).wf = true) :
    ∃ w', (Instr.mapUpdate t (.map (some b)) key (.int .i64 v)).run P w = .ok () w' ∧ KeysIn w' P k e b (n + 1) (S ++ [key]) ∧ w.grownBy w' (some b) := by
  obtain ⟨D, h1, h2⟩ := h
  obtain ⟨w', hrun, h3, h4⟩ := h1.update K ht hn hkey (plainElem_int (H := Unit) he hv)
  refine ⟨w', hrun, ⟨_, h3, fun key' kl' hk' => ?_⟩, h4⟩
  have hm : Maps.IsMap D := h1.isMap
  by_cases e1 : kl' = kl
  · subst e1
    have e2 := K.inj hk' hkey
    subst e2
    rw [Maps.has_put_same hm (K.key hkey)]
    simp
  · rw [Maps.has_put_other e1, h2 key' kl' hk']
    have e2 : key' ≠ key := fun h => e1 (by subst h; rw [hk'] at hkey; exact Option.some.inj hkey)
    simp [e2]
end
/-- A coordinate of a size that may be. -/
def nearB (x : Int) : Bool := decide (-1048576 ≤ x ∧ x ≤ 1048576)
theorem near_c (b : Nat) (l : List Int) (hl : l.length ≤ 1000) (w : World) (hc : ∀ k, k < l.length → w.cell? ⟨b, k, none⟩ = some (.int .i32 (l.getD k 0))) :
    Calls Tryz.prog 13 #[.slice (some ⟨b, 0, none⟩) l.length l.length] w fun e w' => e = .returned (.bool (l.all nearB)) ∧ w = w' := by
  have HC := Lib.hid hc
  clear hc
  go_enter Tryz.func13, Tryz.ntmps13
  go_wp2
  go_loop [7] (fun i => ∃ k : Nat, k ≤ l.length ∧ i = .int .i64 k ∧ Hid ((l.take k).all nearB = true)) (fun i => l.length - (intOf i).toNat)
  case atStart => exact ⟨0, Nat.zero_le _, rfl, rfl⟩
  case round =>
    obtain ⟨k, hk, rfl, ha⟩ := hrel
    by_cases hlt : k < l.length
    · have hcell : w.cell? ⟨b, k, none⟩ = some (.int .i32 (l.getD k 0)) := HC.out k hlt
      have al : nearB (l.getD k 0) = true → (l.take (k + 1)).all nearB = true := by
        intro h1
        rw [List.take_succ_eq_append_getElem hlt, List.all_append, ha.out]
        rw [List.getD_eq_getElem?_getD, List.getElem?_eq_getElem hlt] at h1
        simpa using h1
      have an : nearB (l.getD k 0) = false → l.all nearB = false := by
        intro h1
        rw [List.getD_eq_getElem?_getD, List.getElem?_eq_getElem hlt] at h1
        rw [List.all_eq_false]
        exact ⟨l[k], List.getElem_mem hlt, by simpa using h1⟩
      have AL := Lib.hid al
      have AN := Lib.hid an
      clear al an
      generalize l.getD k 0 = x at *
      go_wp2
      all_goals first
        | (go_ret; exact ⟨ret_bool (AN.out (by unfold nearB; simp; omega)).symm, rfl⟩)
        | (go_round
           case rel => exact ⟨k + 1, by omega, by go_num, AL.out (by unfold nearB; simp; omega)⟩
           case measure => simp [intOf]; omega)
    · have : k = l.length := by omega
      subst this
      go_wp2
      go_ret
      exact ⟨ret_bool (by have := ha.out; rw [List.take_length] at this; exact this.symm), rfl⟩
end Go.Proofs.YtgljhgjjenengaaGreatDoor

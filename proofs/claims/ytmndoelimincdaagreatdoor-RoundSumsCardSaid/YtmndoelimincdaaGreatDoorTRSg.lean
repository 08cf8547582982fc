import Derived.Test.YtmndoelimincdaaGreatDoorTRSf
import Derived.StillTailTactics
import Derived.Deep.RegionHeld3
import Derived.OrdersHeld
import Derived.RegionTactic
import Derived.Deep.RegionWith
import Derived.BigRegion
import Derived.Deep.QuietTactic
import Derived.BigQuiet
import Derived.Laws.CopyOwn
import Derived.Laws.MakeOwn
/- Whole numbers behind pointers: bignum's Int. -/
namespace Go.Proofs.YtmndoelimincdaaGreatDoor
open Go Go.RowKit Nv
open Go.Proofs.YtmndoelimincdaaGreatDoorW.PrintWords (Kd Drawn0 OwnRow Reps)
open XBn (info113)
set_option maxRecDepth 100000

theorem map_reps (l : List Int) : Reps (fun x cs => cs = [Value.int .u32 x]) 1 l (l.map (Value.int .u32)) := by
  refine ⟨by simp, fun j p hp => ?_⟩
  have hj := (List.getElem?_eq_some_iff.1 hp).1
  have hv := (List.getElem?_eq_some_iff.1 hp).2
  rw [Nat.mul_one, ← List.map_drop, ← List.map_take, List.drop_eq_getElem_cons hj, hv]; rfl
theorem own_int {w : World} {B : Nat} {v : Value} {l : List Int} (h : w.ownsRow B 113 1 v l.length (l.map (Value.int .u32))) : ∃ A c, v = .slice A l.length c ∧ l.length ≤ c ∧ Kd.C (Kd.int .u32) w A l.length l :=
  OwnRow.reads ⟨_, h, map_reps l⟩
theorem own_ty {w : World} {B : Nat} {A : Option Addr} {c : Nat} {l : List Int} (h : w.ownsRow B 113 1 (.slice A l.length c) l.length (l.map (Value.int .u32))) : Ty w A l := fun h0 => by
  obtain ⟨_, h | ⟨g, cap, cur, e, _, hh, _⟩⟩ := h
  · omega
  · injection e with e1
    subst e1
    exact ⟨⟨g, 0, none⟩, cur, rfl, hh⟩
theorem twin_w {w : World} {v : Value} {a : Int} (h : Wd w v a) (hs : Sm a) : Calls Tryz.prog 113 #[v] w (WPost a w) := by
  obtain ⟨A, c, l, rfl, hl, ⟨hC, hT⟩, hN, rfl⟩ := h
  have hlen := len_of hN hs
  obtain ⟨i0, hi, hzz⟩ := Option.map_eq_some_iff.1 info113
  simp only [Prod.mk.injEq] at hzz
  obtain ⟨hz0, hz1, hz2⟩ := hzz
  have HN := Lib.hid hN
  have HC := Lib.hid hC
  clear hN hC hs
  rcases Nat.eq_zero_or_pos l.length with h0 | h0
  · obtain rfl := List.eq_nil_of_length_eq_zero h0
    cases A
    all_goals
      go_enter Tryz.func113, Tryz.ntmps113
      go_wp2
      go_ret
      exact ⟨.slice none 0 0, rfl, by rw [nv_nil]; exact Wd.nil _, Below.refl _ _⟩
  · obtain ⟨ad, rfl, hc⟩ := HC.out.2.2 h0
    have hnews : ∀ j u, (l.map (Value.int .u32))[j]? = some u → w.cell? (ad.add j) = some u := by
      intro j u hu
      rw [List.getElem?_map] at hu
      obtain ⟨p, hp, rfl⟩ := Option.map_eq_some_iff.1 hu
      obtain ⟨cs, _, rfl, hcs⟩ := hc j p hp
      have := hcs 0 _ rfl
      rw [show (Kd.int IntKind.u32).sz = 1 from rfl] at this
      simpa using this
    have HW := Lib.hid hnews
    clear hc hnews
    go_enter Tryz.func113, Tryz.ntmps113
    go_wp2_with (first
      | (at_builtin; refine wpList_append_own _ rfl _ _ 83 rfl w.heap.size 113 i0 (.int .u32 0) 1 4 Tryz.underlying83 hi hz0 hz1 hz2 rfl (by decide) (.slice none 0 0) 0 [] rfl (World.ownsRow_nil w _ 113 1) ad l.length c (l.map (Value.int .u32)) rfl (by simp) HW.out (fun u hu => by obtain ⟨x, _, rfl⟩ := List.mem_map.1 hu; rfl) (by unfold maxLen; omega) (by omega) (Nat.le_refl _) ?_; intro v1 w1 hown hg _; have HO := Lib.hid hown; have HB := Lib.hid ((Below.refl w.heap.size w).grown hg (Nat.le_refl _) (fun k h => by cases h)); clear hown hg))
    go_ret
    have hown := HO.out
    rw [Nat.zero_add, List.nil_append] at hown
    obtain ⟨A1, c1, rfl, h1, h2⟩ := own_int hown
    exact ⟨_, rfl, ⟨A1, c1, l, rfl, h1, ⟨h2, own_ty hown⟩, HN.out, rfl⟩, HB.out⟩

/-- But for one block all is as it was. -/
structure Bz (g : Nat) (w w' : World) : Prop where
  os : w'.os = w.os
  tape : w'.tape = w.tape
  output : w'.output = w.output
  size : w.heap.size ≤ w'.heap.size
  block : ∀ k, k < w.heap.size → k ≠ g → w'.heap[k]? = w.heap[k]?
theorem Bz.of {g : Nat} {w w' : World} (h : Below w.heap.size w w') : Bz g w w' := ⟨h.os, h.tape, h.output, h.size, fun k hk _ => h.block k hk⟩
theorem Bz.trans {g : Nat} {a b c : World} (h : Bz g a b) (k : Bz g b c) : Bz g a c :=
  ⟨k.os.trans h.os, k.tape.trans h.tape, k.output.trans h.output, Nat.le_trans h.size k.size, fun i hi hg => (k.block i (Nat.lt_of_lt_of_le hi h.size) hg).trans (h.block i hi hg)⟩
theorem Bz.set {g : Nat} {a b : World} (h : Bz g a b) (i : Nat) (u : Value) : Bz g a (b.setCell ⟨g, i, none⟩ u) :=
  h.trans ⟨rfl, rfl, rfl, by simp [World.setCell], fun k _ hk => Below.heap_setCell b ⟨g, i, none⟩ u k hk⟩
theorem Bz.drewN {g : Nat} {a b : World} (h : Bz g a b) (n : Nat) : Bz g a (b.drewN n) := ⟨h.os, h.tape, h.output, h.size, h.block⟩
theorem Bz.below {g B : Nat} {w0 w w' : World} (h : Below B w0 w) (k : Bz g w w') (hB : B ≤ w.heap.size) (hg : B ≤ g) : Below B w0 w' :=
  ⟨k.os.trans h.os, k.tape.trans h.tape, k.output.trans h.output, Nat.le_trans h.size k.size, fun i hi => (k.block i (by omega) (by omega)).trans (h.block i hi)⟩
/-- A number's block. -/
def IntB (w : World) (b : Nat) (ng : Bool) (sl : Value) : Prop := w.heap[b]? = some (.cells #[.bool ng, sl] 85 (0, 0))
theorem IntB.c0 {w : World} {b : Nat} {ng : Bool} {sl : Value} (h : IntB w b ng sl) : w.cell? ⟨b, 0, none⟩ = some (.bool ng) := kb_cell h rfl
theorem IntB.c1 {w : World} {b : Nat} {ng : Bool} {sl : Value} (h : IntB w b ng sl) : w.cell? ⟨b, 1, none⟩ = some sl := kb_cell h rfl
theorem IntB.fz {w : World} {b : Nat} {ng : Bool} {sl : Value} (h : IntB w b ng sl) (i : Nat) : w.frozen? ⟨b, i, none⟩ = false := kb_frozen h i
theorem IntB.lt {w : World} {b : Nat} {ng : Bool} {sl : Value} (h : IntB w b ng sl) : b < w.heap.size := kb_lt h
def sg (ng : Bool) (n : Int) : Int := if ng then -n else n
/-- The block is the number. -/
def IntAt (w : World) (b : Nat) (v : Int) : Prop := ∃ ng sl n, IntB w b ng sl ∧ Wd w sl n ∧ (ng = true → n ≠ 0) ∧ v = sg ng n
theorem IntAt.lt {w : World} {b : Nat} {v : Int} (h : IntAt w b v) : b < w.heap.size := by obtain ⟨ng, sl, n, h, _⟩ := h; exact h.lt
theorem add_block (a : Addr) (n : Nat) : (a.add n).block = a.block := by unfold Addr.add; split <;> rfl
/-- A store into a number's block leaves words alone. -/
theorem Wd.bz {w w' : World} {z : Nat} {a : Bool} {s v : Value} {n : Int} (h : Wd w v n) (hz : IntB w z a s) (hs : ∀ x, s ≠ .int .u32 x) (hb : Bz z w w') : Wd w' v n := by
  obtain ⟨A, c, l, rfl, hl, ⟨hC, hT⟩, hN, hn⟩ := h
  refine ⟨A, c, l, rfl, hl, ⟨⟨hC.1, hC.2.1, fun h0 => ?_⟩, fun h0 => ?_⟩, hN, hn⟩
  rotate_left
  · obtain ⟨ad, cells, e, hc⟩ := hT h0
    have hlt : ad.block < w.heap.size := kb_lt hc
    have hne : ad.block ≠ z := fun e2 => by
      rw [e2, hz] at hc
      injection hc with hc
      injection hc with _ ht
      exact absurd ht (by decide)
    exact ⟨ad, cells, e, (hb.block _ hlt hne).trans hc⟩
  obtain ⟨ad, e, hc⟩ := hC.2.2 h0
  have hne : ad.block ≠ z := by
    obtain ⟨cs, _, hK, hcs⟩ := hc 0 _ (List.getElem?_eq_getElem h0)
    have hK : cs = [.int .u32 l[0]] := hK
    subst hK
    have h1 := hcs 0 _ rfl
    intro e
    have h2 : (ad.add (0 * (Kd.int .u32).sz + 0)) = ad := by simp [Addr.add]
    rw [h2] at h1
    unfold World.cell? at h1
    rw [e, hz] at h1
    simp only at h1
    split at h1
    · cases h1
    · rcases Nat.lt_or_ge ad.off 2 with h3 | h3
      · have h4 : ad.off = 0 ∨ ad.off = 1 := by omega
        rcases h4 with h4 | h4
        · rw [h4] at h1; simp at h1
        · rw [h4] at h1; simp at h1; exact hs _ h1
      · rw [Array.getElem?_eq_none (by simpa using h3)] at h1; cases h1
  have hlt : ad.block < w.heap.size := by
    obtain ⟨cs, _, hK, hcs⟩ := hc 0 _ (List.getElem?_eq_getElem h0)
    have hK : cs = [.int .u32 l[0]] := hK
    subst hK
    have := World.block_lt_of_cell? w _ (hcs 0 _ rfl)
    rw [add_block] at this
    exact this
  refine ⟨ad, e, fun j p hp => ?_⟩
  obtain ⟨cs, h1, hK, hcs⟩ := hc j p hp
  refine ⟨cs, h1, hK, fun i u hu => ?_⟩
  have : w'.cell? (ad.add (j * (Kd.int .u32).sz + i)) = w.cell? (ad.add (j * (Kd.int .u32).sz + i)) := World.cell?_of_block (by rw [add_block]; exact hb.block _ hlt hne)
  rw [this]
  exact hcs i u hu
theorem Wd.sl {w : World} {v : Value} {n : Int} (h : Wd w v n) : ∀ x, v ≠ .int .u32 x := by
  obtain ⟨A, c, l, rfl, _⟩ := h
  intro x h; cases h
/-- Another number's block is written. -/
theorem IntAt.keep {w w' : World} {b z : Nat} {u v : Int} (h : IntAt w b v) (hz : IntAt w z u) (hne : b ≠ z) (hb : Bz z w w') : IntAt w' b v := by
  obtain ⟨ng, sl, n, h1, h2, h3, h4⟩ := h
  obtain ⟨ng', sl', n', g1, g2, g3, g4⟩ := hz
  exact ⟨ng, sl, n, (hb.block b h1.lt hne).trans h1, h2.bz g1 g2.sl hb, h3, h4⟩
theorem IntAt.below {w w' : World} {b : Nat} {v : Int} (h : IntAt w b v) (hb : Below w.heap.size w w') : IntAt w' b v := by
  obtain ⟨ng, sl, n, h1, h2, h3, h4⟩ := h
  exact ⟨ng, sl, n, kb_keep hb h1, h2.below hb, h3, h4⟩
theorem IntAt.alloc {w : World} {b : Nat} {v : Int} (h : IntAt w b v) (o : Obj) : IntAt (w.alloc o) b v := h.below ((Below.refl _ _).alloc (Nat.le_refl _) o)
theorem IntAt.drewN {w : World} {b : Nat} {v : Int} (h : IntAt w b v) (n : Nat) : IntAt (w.drewN n) b v := h.below (bl_drewN (Below.refl _ _) n)
theorem IntAt.drew {w : World} {b : Nat} {v : Int} (h : IntAt w b v) : IntAt w.drew b v := h.below (bl_drew (Below.refl _ _))
theorem IntAt.zero (w : World) : IntAt (w.alloc (.cells #[.bool false, .slice none 0 0] 85)) w.heap.size 0 :=
  ⟨false, .slice none 0 0, 0, kb_new (Below.refl _ _), Wd.nil _, fun h => (by cases h), rfl⟩
def GPost (z : Nat) (v : Int) (w : World) (e : Ending) (w' : World) : Prop := e = .returned (.pointer (some ⟨z, 0, none⟩)) ∧ IntAt w' z v ∧ Bz z w w'
theorem set_both {w : World} {z : Nat} {a b : Bool} {s sl : Value} (h : IntB w z a s) : IntB ((w.setCell ⟨z, 1, none⟩ sl).setCell ⟨z, 0, none⟩ (.bool b)) z b sl := by
  unfold IntB at h ⊢
  simp [World.setCell, Array.getElem?_modify, h]
theorem give_c {w : World} {z : Nat} {a : Bool} {s sl : Value} {n : Int} (hz : IntB w z a s) (hs : ∀ x, s ≠ .int .u32 x) (hW : Wd w sl n) (ng : Bool) :
    Calls Tryz.prog 112 #[.pointer (some ⟨z, 0, none⟩), .bool ng, sl] w (GPost z (sg ng n) w) := by
  have key : ∀ b : Bool, (b = true → n ≠ 0) → sg b n = sg ng n → GPost z (sg ng n) w (.returned (.pointer (some ⟨z, 0, none⟩))) ((w.setCell ⟨z, 1, none⟩ sl).setCell ⟨z, 0, none⟩ (.bool b)) := fun b h1 h2 => by
    have hb : Bz z w ((w.setCell ⟨z, 1, none⟩ sl).setCell ⟨z, 0, none⟩ (.bool b)) := ((Bz.of (Below.refl _ _)).set 1 sl).set 0 (.bool b)
    exact ⟨rfl, ⟨b, sl, n, set_both hz, hW.bz hz hs hb, h1, h2.symm⟩, hb⟩
  obtain ⟨A, c, l, rfl, hl, ⟨hC, hT⟩, hN, hn⟩ := hW
  have KEY := Lib.hid key
  have h0 := hN.zero
  rw [hn] at h0
  have H0 := Lib.hid h0
  have c0 := hz.c0
  have c1 := hz.c1
  have f0 := hz.fz 0
  have f1 := hz.fz 1
  clear key hC hN h0 hn hs hl
  cases ng
  · go_enter Tryz.func112, Tryz.ntmps112
    go_wp2
    go_ret
    exact KEY.out false (fun h => (by cases h)) rfl
  · by_cases hl0 : 0 < l.length
    · have k0 : decide ((0 : Int) < (l.length : Int)) = true := decide_eq_true (by omega)
      have k1 : decide (0 < l.length) = true := decide_eq_true hl0
      go_enter Tryz.func112, Tryz.ntmps112
      go_wp2
      go_ret
      refine KEY.out true (fun _ h => ?_) rfl
      have := H0.out.1 h
      rw [this] at hl0
      simp at hl0
    · have e : l = [] := List.eq_nil_of_length_eq_zero (by omega)
      have h1 := H0.out.2 e
      have H1 := Lib.hid h1
      subst e
      clear h1 hl0
      go_enter Tryz.func112, Tryz.ntmps112
      go_wp2
      go_ret
      exact KEY.out false (fun h => (by cases h)) (by rw [H1.out]; rfl)
end Go.Proofs.YtmndoelimincdaaGreatDoor

/- A region that draws its order, with loads, calls that make memory, and one call (number g) that writes what the loads read, behind all of them: till then S holds. -/
namespace Go.Proofs.YtmndoelimincdaaGreatDoor
open Go

section
variable {P : Program} {ops : Array Oper} {Q : Exit → Act → World → Prop} {md : Region.Mode} {S : World → Prop} {g : Nat}

/-- Whatever order is picked from here on; till number g has come up, S holds behind every operation. -/
def wpG (P : Program) (md : Region.Mode) (ops : Array Oper) (Q : Exit → Act → World → Prop) (S : World → Prop) (g : Nat) : Nat → Array Bool → Act → World → Prop
  | 0, listed, a, w => Region.ready md ops listed = [] ∧ Q .normal a w
  | fuel + 1, listed, a, w =>
    (Region.ready md ops listed = [] → Q .normal a w) ∧
    ∀ i ∈ Region.ready md ops listed, wpOp P ops Q i (fun a' w' => ((listed.setIfInBounds i true).getD g true = true ∨ S w') ∧ wpG P md ops Q S g fuel (listed.setIfInBounds i true) a' w') a w
theorem wpAny_of_G : ∀ (fuel : Nat) (listed : Array Bool) (a : Act) (w : World), wpG P md ops Q S g fuel listed a w → wpAny P md ops Q fuel listed a w
  | 0, _, _, _, h => h
  | fuel + 1, _, _, _, h => ⟨h.1, fun i hi => wpOp_mono (fun a' w' h' => wpAny_of_G fuel _ a' w' h'.2) (h.2 i hi)⟩
theorem wp_region_G {id : Nat} {a : Act} {w : World} (hm : P.follows .mixedOrders = true)
    (h : wpG P .any ops Q S g ops.size (Array.replicate ops.size false) a w.drew) : (Code.region id ops true).wp P Q a w :=
  wp_region_any hm (wpAny_of_G _ _ _ _ h)
/-- An operation that yields in whatever world is taken first. -/
theorem wpG_first {i : Nat} {oi : Oper} {v : Value} (hgi : i ≠ g) (hi : ops[i]? = some oi) (hsel : ∀ (j : Nat) (o : Oper) cs b, ops[j]? = some o → o.op ≠ .select cs b)
    (hQ : ∀ c a w, Q (.panic c) (a.put oi.dst v) w → Q (.panic c) a w) :
    ∀ (fuel : Nat) (listed : Array Bool) (a : Act) (w : World),
      (∀ j oj, ops[j]? = some oj → j ≠ i → listed.getD j true = false → (∀ e ∈ oj.after, Region.binds md e = true → e.on ≠ i) → oi.apart ops oj = true) →
      i ∈ Region.ready md ops listed → Yields P ops oi v a → ((listed.setIfInBounds i true).getD g true = true ∨ S w) →
      wpG P md ops Q S g fuel (listed.setIfInBounds i true) (a.put oi.dst v) w → wpG P md ops Q S g (fuel + 1) listed a w := by
  intro fuel
  induction fuel with
  | zero =>
    intro listed a w _ hr hy hS H
    refine ⟨fun h => (by rw [h] at hr; cases hr), fun j hj => ?_⟩
    by_cases hji : j = i
    · subst hji; exact hy.wpOp hi ⟨hS, H⟩
    · have := ready_mono hj hji
      rw [H.1] at this
      cases this
  | succ fuel ih =>
    intro listed a w hfree hr hy hS H
    refine ⟨fun h => (by rw [h] at hr; cases hr), fun j hj => ?_⟩
    by_cases hji : j = i
    · subst hji; exact hy.wpOp hi ⟨hS, H⟩
    · have h1 := H.2 j (ready_mono hj hji)
      obtain ⟨hjun, oj, hoj, hall⟩ := mem_ready.1 hj
      have hnot : ∀ e ∈ oj.after, Region.binds md e = true → e.on ≠ i := fun e he hb heq => by
        have h1 := hall e he hb
        have h0 := (mem_ready.1 hr).1
        rw [heq] at h1
        rcases Nat.lt_or_ge i listed.size with h' | h'
        · simp [h'] at h0 h1; rw [h0] at h1; cases h1
        · simp [Array.getElem?_eq_none h'] at h1
      have h2 := wpOp_put hoj (hfree j oj hoj hji hjun hnot) (fun cs b => hsel i oi cs b hi) (fun cs b => hsel j oj cs b hoj) hQ hy h1
      have hfree' : ∀ k ok, ops[k]? = some ok → k ≠ i → (listed.setIfInBounds j true).getD k true = false →
          (∀ e ∈ ok.after, Region.binds md e = true → e.on ≠ i) → oi.apart ops ok = true := fun k ok hk hki hun hno => by
        refine hfree k ok hk hki ?_ hno
        by_cases hjk : j = k
        · subst hjk; exact hjun
        · rw [getD_set_ne true hjk] at hun; exact hun
      refine wpOp_mono (fun a' w' h3 => ?_) h2
      have e : (listed.setIfInBounds j true).setIfInBounds i true = (listed.setIfInBounds i true).setIfInBounds j true := Array.setIfInBounds_comm _ _ hji
      have hS2 : ((listed.setIfInBounds j true).setIfInBounds i true).getD g true = true ∨ S w' := by rw [e]; exact h3.2.1
      refine ⟨?_, ih (listed.setIfInBounds j true) a' w' hfree' (ready_mono hr (Ne.symm hji)) h3.1 hS2 (by rw [e]; exact h3.2.2)⟩
      rcases h3.2.1 with h4 | h4
      · rw [← e, getD_set_ne true hgi] at h4
        exact .inl h4
      · exact .inr h4
/-- Number c waits for number i. -/
def Waits (md : Region.Mode) (ops : Array Oper) (c i : Nat) : Bool := match ops[c]? with
  | some o => o.after.any fun e => Region.binds md e && e.on == i
  | none => false
theorem Waits.not_ready {c i : Nat} {listed : Array Bool} (h : Waits md ops c i = true) (hi : listed.getD i true = false) : c ∉ Region.ready md ops listed := by
  intro hr
  obtain ⟨_, o, ho, hall⟩ := mem_ready.1 hr
  unfold Waits at h
  rw [ho] at h
  obtain ⟨e, he, hb⟩ := Array.any_eq_true'.1 h
  simp only [Bool.and_eq_true, beq_iff_eq] at hb
  have h1 := hall e he hb.1
  rw [hb.2] at h1
  rcases Nat.lt_or_ge i listed.size with h' | h'
  · simp [h'] at hi h1; rw [hi] at h1; cases h1
  · simp [Array.getElem?_eq_none h'] at h1
/-- A load is taken first: number g waits for c, and c for the load. -/
theorem wpG_load {i c : Nat} {oi : Oper} {v : Value} (hgi : i ≠ g) (hci : Waits md ops c i = true) (hgc : (g == c || Waits md ops g c) = true) (hi : ops[i]? = some oi) (hsel : ∀ (j : Nat) (o : Oper) cs b, ops[j]? = some o → o.op ≠ .select cs b)
    (hQ : ∀ c a w, Q (.panic c) (a.put oi.dst v) w → Q (.panic c) a w) :
    ∀ (fuel : Nat) (listed : Array Bool) (a : Act) (w : World),
      (∀ j oj, ops[j]? = some oj → j ≠ i → listed.getD j true = false → (∀ e ∈ oj.after, Region.binds md e = true → e.on ≠ i) → oi.apart ops oj = true) →
      i ∈ Region.ready md ops listed → listed.getD c true = false → listed.getD g true = false → YieldsIf P ops S oi v a → S w →
      wpG P md ops Q S g fuel (listed.setIfInBounds i true) (a.put oi.dst v) w → wpG P md ops Q S g (fuel + 1) listed a w := by
  intro fuel
  induction fuel with
  | zero =>
    intro listed a w _ hr hc hg hy hS H
    refine ⟨fun h => (by rw [h] at hr; cases hr), fun j hj => ?_⟩
    by_cases hji : j = i
    · subst hji; exact hy.wpOp hi hS ⟨.inr hS, H⟩
    · have := ready_mono hj hji
      rw [H.1] at this
      cases this
  | succ fuel ih =>
    intro listed a w hfree hr hc hg hy hS H
    refine ⟨fun h => (by rw [h] at hr; cases hr), fun j hj => ?_⟩
    by_cases hji : j = i
    · subst hji; exact hy.wpOp hi hS ⟨.inr hS, H⟩
    · have h1 := H.2 j (ready_mono hj hji)
      have hun := (mem_ready.1 hr).1
      have hjc : j ≠ c := fun h => Waits.not_ready hci hun (h ▸ hj)
      have hjg : j ≠ g := fun h => by
        rcases Bool.or_eq_true_iff.1 hgc with h2 | h2
        · exact hjc (h.trans (beq_iff_eq.1 h2))
        · exact Waits.not_ready h2 hc (h ▸ hj)
      obtain ⟨hjun, oj, hoj, hall⟩ := mem_ready.1 hj
      have hnot : ∀ e ∈ oj.after, Region.binds md e = true → e.on ≠ i := fun e he hb heq => by
        have h1 := hall e he hb
        rw [heq] at h1
        rcases Nat.lt_or_ge i listed.size with h' | h'
        · simp [h'] at hun h1; rw [hun] at h1; cases h1
        · simp [Array.getElem?_eq_none h'] at h1
      have h2 := wpOp_putIf hoj (hfree j oj hoj hji hjun hnot) (fun cs b => hsel i oi cs b hi) (fun cs b => hsel j oj cs b hoj) hQ hy h1
      have hfree' : ∀ k ok, ops[k]? = some ok → k ≠ i → (listed.setIfInBounds j true).getD k true = false →
          (∀ e ∈ ok.after, Region.binds md e = true → e.on ≠ i) → oi.apart ops ok = true := fun k ok hk hki hun hno => by
        refine hfree k ok hk hki ?_ hno
        by_cases hjk : j = k
        · subst hjk; exact hjun
        · rw [getD_set_ne true hjk] at hun; exact hun
      refine wpOp_mono (fun a' w' h3 => ?_) h2
      have e : (listed.setIfInBounds j true).setIfInBounds i true = (listed.setIfInBounds i true).setIfInBounds j true := Array.setIfInBounds_comm _ _ hji
      have hS2 : S w' := by
        rcases h3.2.1 with h4 | h4
        · rw [← e, getD_set_ne true hgi, getD_set_ne true hjg, hg] at h4; cases h4
        · exact h4
      exact ⟨.inr hS2, ih (listed.setIfInBounds j true) a' w' hfree' (ready_mono hr (Ne.symm hji)) (by rw [getD_set_ne true hjc]; exact hc) (by rw [getD_set_ne true hjg]; exact hg) h3.1 hS2 (by rw [e]; exact h3.2.2)⟩

/-! ### The moves of a walk -/
theorem wpG_take {i : Nat} {oi : Oper} {v : Value} {fuel : Nat} {listed : Array Bool} {a : Act} {w : World} (hi : ops[i]? = some oi) (hgi : (i != g) = true)
    (hs : Region.noSelect ops = true) (hf : Region.free md ops listed i = true) (hr : (Region.ready md ops listed).contains i = true)
    (hQ : ∀ c a w, Q (.panic c) (a.put oi.dst v) w → Q (.panic c) a w) (hy : Yields P ops oi v a) (hS : (listed.setIfInBounds i true).getD g true = true ∨ S w)
    (h : wpG P md ops Q S g fuel (listed.setIfInBounds i true) (a.put oi.dst v) w) : wpG P md ops Q S g (fuel + 1) listed a w :=
  wpG_first (by simpa using hgi) hi (Region.noSelect_spec hs) hQ fuel listed a w (Region.free_spec hi hf) (by simpa using hr) hy hS h
theorem wpG_ld {i : Nat} (c : Nat) {oi : Oper} {v : Value} {fuel : Nat} {listed : Array Bool} {a : Act} {w : World} (hi : ops[i]? = some oi) (hgi : (i != g) = true)
    (hs : Region.noSelect ops = true) (hf : Region.free md ops listed i = true) (hr : (Region.ready md ops listed).contains i = true)
    (hw : (Waits md ops c i && (g == c || Waits md ops g c) && !(listed.getD c true) && !(listed.getD g true)) = true)
    (hQ : ∀ c a w, Q (.panic c) (a.put oi.dst v) w → Q (.panic c) a w) (hy : YieldsIf P ops S oi v a) (hS : S w)
    (h : wpG P md ops Q S g fuel (listed.setIfInBounds i true) (a.put oi.dst v) w) : wpG P md ops Q S g (fuel + 1) listed a w := by
  simp only [Bool.and_eq_true, Bool.not_eq_true'] at hw
  exact wpG_load (by simpa using hgi) hw.1.1.1 hw.1.1.2 hi (Region.noSelect_spec hs) hQ fuel listed a w (Region.free_spec hi hf) (by simpa using hr) hw.1.2 hw.2 hy hS h
/-- One alone may come up. -/
theorem wpG_one {i : Nat} {o : Oper} {fuel : Nat} {listed : Array Bool} {a : Act} {w : World} (hr : Region.ready md ops listed = [i]) (hi : ops[i]? = some o)
    (h : ∀ K' : Act → World → Prop, (∀ a' w', ((listed.setIfInBounds i true).getD g true = true ∨ S w') → wpG P md ops Q S g fuel (listed.setIfInBounds i true) a' w' → K' a' w') → if Region.wanted o (yielded ops a.tmps) = true then Oper.wp P o a w K' Q else K' (a.put o.dst undef) w) : wpG P md ops Q S g (fuel + 1) listed a w := by
  refine ⟨fun h0 => (by rw [hr] at h0; cases h0), fun j hj => ?_⟩
  rw [hr, List.mem_singleton] at hj
  subst hj
  exact wpOp_step hi (fun K' hK => h K' (fun a' w' h1 h2 => hK a' w' ⟨h1, h2⟩))
theorem wpG_done {listed : Array Bool} {a : Act} {w : World} (hr : Region.ready md ops listed = []) (h : Q .normal a w) : ∀ fuel, wpG P md ops Q S g fuel listed a w
  | 0 => ⟨hr, h⟩
  | _ + 1 => ⟨fun _ => h, by rw [hr]; simp⟩
end
end Go.Proofs.YtmndoelimincdaaGreatDoor

/- bignum's Int: what its methods do. -/
namespace Go.Proofs.YtmndoelimincdaaGreatDoor
open Go Go.RowKit Nv
set_option maxRecDepth 100000
set_option linter.unusedSimpArgs false

abbrev pt (b : Nat) : Value := .pointer (some ⟨b, 0, none⟩)
theorem GPost.after {z : Nat} {v : Int} {w w1 w' : World} {e : Ending} (hb : Below w.heap.size w w1) (h : GPost z v w1 e w') : GPost z v w e w' := ⟨h.1, h.2.1, (Bz.of hb).trans h.2.2⟩
theorem IntB.below {w w' : World} {b : Nat} {ng : Bool} {sl : Value} (h : IntB w b ng sl) (hb : Below w.heap.size w w') : IntB w' b ng sl := kb_keep hb h
theorem dr_below (w : World) : Below w.heap.size w w.drew := bl_drew (Below.refl _ _)
theorem setU_c {w : World} {z : Nat} {v : Int} (hz : IntAt w z v) (x : Nat) (hx : x < 18446744073709551616) : Calls Tryz.prog 110 #[pt z, .int .u64 x] w (GPost z x w) := by
  obtain ⟨ng, sl, n, h1, h2, h3, h4⟩ := hz
  have H1 := Lib.hid h1
  have H2 := Lib.hid h2
  have ww : ∀ w, Calls Tryz.prog 137 #[.int .u64 x] w (WPost x w) := fun w => words_w x hx w
  clear h1 h2 h3 h4 hx
  go_enter Tryz.func110, Tryz.ntmps110
  go_wp2_with (first
    | (go_at_call 137; refine (ww _).mono ?_; rintro e w1 ⟨v1, rfl, hW, hb⟩; have HW := Lib.hid hW; have HB := Lib.hid hb; clear hW hb)
    | (go_at_call 112; refine (give_c (H1.out.below HB.out) H2.out.sl HW.out false).mono ?_; rintro e w2 ⟨rfl, hI, hz⟩; have HI := Lib.hid hI; have HZ := Lib.hid hz; clear hI hz))
  go_ret
  exact ⟨rfl, HI.out, (Bz.of HB.out).trans HZ.out⟩
set_option maxHeartbeats 1600000 in
theorem lsh_c {w : World} {z x : Nat} {u v : Int} (hz : IntAt w z u) (hx : IntAt w x v) (n : Nat) (hn : n ≤ 10000000) (hs : Sm v.natAbs) : Calls Tryz.prog 80 #[pt z, pt x, .int .u64 n] w (GPost z (v * 2 ^ n) w) := by
  obtain ⟨ng, sl, a, h1, h2, h3, h4⟩ := hz
  obtain ⟨xg, xs, b, g1, g2, g3, g4⟩ := hx
  have e1 : (v.natAbs : Int) = b := by rw [g4]; unfold sg; have := g2.nonneg; split <;> omega
  rw [e1] at hs
  have e2 : sg xg (b * 2 ^ n) = v * 2 ^ n := by rw [g4]; unfold sg; split <;> simp [Int.neg_mul]
  have c0 := g1.c0
  have c1 := g1.c1
  have hlt := g1.lt
  have H1 := Lib.hid h1
  have H2 := Lib.hid h2
  have G2 := Lib.hid g2
  have E2 := Lib.hid e2
  have lw : ∀ w', Below w.heap.size w w' → Calls Tryz.prog 115 #[xs, .int .u64 n] w' (WPost (b * 2 ^ n) w') := fun w' hb => left_w (g2.below hb) hs n hn
  have LW := Lib.hid lw
  have HL := Lib.hid hlt
  clear h1 h2 h3 h4 g1 g2 g3 g4 e1 e2 hs hn lw
  go_enter Tryz.func80, Tryz.ntmps80
  go_wp2
  go_region_with (first
    | (go_at_call 115; refine (LW.out _ ?_).mono ?_; exact dr_below _; rintro e w1 ⟨v1, rfl, hW, hb⟩; have cc0 := hb.cell (p := ⟨x, 0, none⟩) HL.out; have HW := Lib.hid hW; have HB := Lib.hid ((dr_below w).trans hb); clear hW hb)
    | (go_at_call 112; refine (give_c (H1.out.below HB.out) H2.out.sl HW.out xg).mono ?_; rintro e w2 ⟨rfl, hI, hz⟩; have HI := Lib.hid hI; have HZ := Lib.hid hz; clear hI hz))
  all_goals go_wp2
  all_goals go_ret
  all_goals exact ⟨rfl, by rw [← E2.out]; exact HI.out, (Bz.of HB.out).trans HZ.out⟩

/-- What is read of a number. -/
structure Rd (w : World) (b : Nat) (v : Int) (ng : Bool) (sl : Value) (n : Int) : Prop where
  blk : IntB w b ng sl
  wd : Wd w sl n
  val : v = sg ng n
  nz : ng = true → n ≠ 0
theorem IntAt.rd {w : World} {b : Nat} {v : Int} (h : IntAt w b v) : ∃ ng sl n, Rd w b v ng sl n := by
  obtain ⟨ng, sl, n, h1, h2, h3, h4⟩ := h
  exact ⟨ng, sl, n, h1, h2, h4, h3⟩
theorem Rd.abs {w : World} {b : Nat} {v : Int} {ng : Bool} {sl : Value} {n : Int} (h : Rd w b v ng sl n) : (v.natAbs : Int) = n := by
  rw [h.val]; unfold sg; have := h.wd.nonneg; split <;> omega
theorem Rd.sm {w : World} {b : Nat} {v : Int} {ng : Bool} {sl : Value} {n : Int} (h : Rd w b v ng sl n) (hs : Sm v.natAbs) : Sm n := by rw [← h.abs]; exact hs
set_option maxHeartbeats 1600000 in
theorem neg_c {w : World} {z x : Nat} {u v : Int} (hz : IntAt w z u) (hx : IntAt w x v) (hs : Sm v.natAbs) : Calls Tryz.prog 111 #[pt z, pt x] w (GPost z (-v) w) := by
  obtain ⟨zg, zs, a, hz⟩ := hz.rd
  obtain ⟨xg, xs, b, hx⟩ := hx.rd
  have hb := hx.sm hs
  have e2 : sg (!xg) b = -v := by rw [hx.val]; unfold sg; cases xg <;> simp
  have c0 := hx.blk.c0
  have c1 := hx.blk.c1
  have HX := Lib.hid hx
  have HZ0 := Lib.hid hz
  have E2 := Lib.hid e2
  have lw : ∀ w', Below w.heap.size w w' → Calls Tryz.prog 113 #[xs] w' (WPost b w') := fun w' h => twin_w (hx.wd.below h) hb
  have LW := Lib.hid lw
  clear hz hx e2 hs hb lw
  go_enter Tryz.func111, Tryz.ntmps111
  go_wp2
  go_region_with (first
    | (go_at_call 113; refine (LW.out _ ?_).mono ?_; exact dr_below _; rintro e w1 ⟨v1, rfl, hW, hb⟩; have cc0 := hb.cell (p := ⟨x, 0, none⟩) HX.out.blk.lt; have HW := Lib.hid hW; have HB := Lib.hid ((dr_below w).trans hb); clear hW hb)
    | (go_at_call 112; refine (give_c (HZ0.out.blk.below HB.out) HZ0.out.wd.sl HW.out (!xg)).mono ?_; rintro e w2 ⟨rfl, hI, hz⟩; have HI := Lib.hid hI; have HZ := Lib.hid hz; clear hI hz))
  all_goals go_wp2
  all_goals go_ret
  all_goals exact ⟨rfl, by rw [← E2.out]; exact HI.out, (Bz.of HB.out).trans HZ.out⟩
end Go.Proofs.YtmndoelimincdaaGreatDoor

/- bignum's Int: sums, signs, what is made of an int64. -/
namespace Go.Proofs.YtmndoelimincdaaGreatDoor
open Go Go.RowKit Nv
set_option maxRecDepth 100000
set_option linter.unusedSimpArgs false

def SPost (s : Int) (w : World) (e : Ending) (w' : World) : Prop := ∃ ng v n, e = .returned (.tuple #[.bool ng, v]) ∧ Wd w' v n ∧ sg ng n = s ∧ Below w.heap.size w w'
set_option maxHeartbeats 1600000 in
theorem sum_c {w : World} {u v : Value} {a b : Int} (xg yg : Bool) (h : Wd w u a) (k : Wd w v b) (hs : Sm a) (ks : Sm b) : Calls Tryz.prog 119 #[.bool xg, u, .bool yg, v] w (SPost (sg xg a + sg yg b) w) := by
  have ha := h.nonneg
  have hb := k.nonneg
  have ad : ∀ w', Below w.heap.size w w' → Calls Tryz.prog 116 #[u, v] w' (WPost (a + b) w') := fun w' hb => add_w (h.below hb) (k.below hb) hs ks
  have cm : ∀ w', Below w.heap.size w w' → Calls Tryz.prog 120 #[u, v] w' fun e w'' => e = .returned (.int .i64 (if a < b then -1 else if b < a then 1 else 0)) ∧ Below w'.heap.size w' w'' := fun w' hb => cmp_w (h.below hb) (k.below hb) hs
  have s1 : b ≤ a → ∀ w', Below w.heap.size w w' → Calls Tryz.prog 118 #[u, v] w' (WPost (a - b) w') := fun hle w' hb => sub_w (h.below hb) (k.below hb) hs hle
  have s2 : a ≤ b → ∀ w', Below w.heap.size w w' → Calls Tryz.prog 118 #[v, u] w' (WPost (b - a) w') := fun hle w' hb => sub_w (k.below hb) (h.below hb) ks hle
  have AD := Lib.hid ad
  have CM := Lib.hid cm
  have S1 := Lib.hid s1
  have S2 := Lib.hid s2
  have HA := Lib.hid ha
  have HB0 := Lib.hid hb
  clear h k hs ks ad cm s1 s2 ha hb
  by_cases hx : xg = yg
  · subst hx
    go_enter Tryz.func119, Tryz.ntmps119
    go_wp2_with (first
      | (go_at_call 116; refine (AD.out _ (Below.refl _ _)).mono ?_; rintro e w1 ⟨v1, rfl, hW, hb⟩; have HW := Lib.hid hW; have HB := Lib.hid hb; clear hW hb))
    go_ret2
    exact ⟨xg, v1, a + b, rfl, HW.out, by unfold sg; split <;> omega, HB.out⟩
  · have e1 : (xg == yg) = false := by simpa using hx
    have HX := Lib.hid hx
    clear hx
    by_cases hlt : a < b
    · have HL := Lib.hid hlt
      have e2 : (if a < b then (-1 : Int) else if b < a then 1 else 0) = -1 := if_pos hlt
      rw [e2] at CM
      clear hlt e2
      go_enter Tryz.func119, Tryz.ntmps119
      go_wp2_with (first
        | (go_at_call 120; refine (CM.out _ (Below.refl _ _)).mono ?_; rintro e w1 ⟨rfl, hb⟩; have HB := Lib.hid hb; clear hb)
        | (go_at_call 118; refine (S2.out (Int.le_of_lt HL.out) _ HB.out).mono ?_; rintro e w2 ⟨v1, rfl, hW, hb⟩; have HW := Lib.hid hW; have HB2 := Lib.hid hb; clear hW hb))
      go_ret2
      exact ⟨yg, v1, b - a, rfl, HW.out, by have := HX.out; unfold sg; cases xg <;> cases yg <;> simp at this ⊢ <;> omega, bl_then HB.out HB2.out⟩
    · obtain ⟨c, hc, h0⟩ : ∃ c : Int, (if a < b then (-1 : Int) else if b < a then 1 else 0) = c ∧ 0 ≤ c := ⟨_, rfl, by rw [if_neg hlt]; split <;> omega⟩
      rw [hc] at CM
      have HL := Lib.hid hlt
      clear hlt hc
      go_enter Tryz.func119, Tryz.ntmps119
      go_wp2_with (first
        | (go_at_call 120; refine (CM.out _ (Below.refl _ _)).mono ?_; rintro e w1 ⟨rfl, hb⟩; have HB := Lib.hid hb; clear hb)
        | (go_at_call 118; refine (S1.out (by have := HL.out; omega) _ HB.out).mono ?_; rintro e w2 ⟨v1, rfl, hW, hb⟩; have HW := Lib.hid hW; have HB2 := Lib.hid hb; clear hW hb))
      go_ret2
      exact ⟨xg, v1, a - b, rfl, HW.out, by have := HX.out; unfold sg; cases xg <;> cases yg <;> simp at this ⊢ <;> omega, bl_then HB.out HB2.out⟩
set_option maxHeartbeats 1600000 in
theorem sub_c {w : World} {z x y : Nat} {u v t : Int} (hz : IntAt w z u) (hx : IntAt w x v) (hy : IntAt w y t) (hs : Sm v.natAbs) (ks : Sm t.natAbs) : Calls Tryz.prog 83 #[pt z, pt x, pt y] w (GPost z (v - t) w) := by
  obtain ⟨zg, zs, a, hz⟩ := hz.rd
  obtain ⟨xg, xs, b, hx⟩ := hx.rd
  obtain ⟨yg, ys, c, hy⟩ := hy.rd
  have e2 : sg xg b + sg (!yg) c = v - t := by rw [hx.val, hy.val]; unfold sg; cases xg <;> cases yg <;> simp <;> omega
  have c0 := hx.blk.c0
  have c1 := hx.blk.c1
  have d0 := hy.blk.c0
  have d1 := hy.blk.c1
  have HZ0 := Lib.hid hz
  have E2 := Lib.hid e2
  have lw : ∀ w', Below w.heap.size w w' → Calls Tryz.prog 119 #[.bool xg, xs, .bool (!yg), ys] w' (SPost (sg xg b + sg (!yg) c) w') := fun w' h => sum_c xg (!yg) (hx.wd.below h) (hy.wd.below h) (hx.sm hs) (hy.sm ks)
  have LW := Lib.hid lw
  clear hz hx hy e2 hs ks lw
  go_enter Tryz.func83, Tryz.ntmps83
  go_wp2
  have hS : w.drew.cell? ⟨x, 0, none⟩ = some (.bool xg) ∧ w.drew.cell? ⟨x, 1, none⟩ = some xs ∧ w.drew.cell? ⟨y, 0, none⟩ = some (.bool yg) ∧ w.drew.cell? ⟨y, 1, none⟩ = some ys := ⟨c0, c1, d0, d1⟩
  refine wp_region_G (g := 18) (S := fun w' => w'.cell? ⟨x, 0, none⟩ = some (.bool xg) ∧ w'.cell? ⟨x, 1, none⟩ = some xs ∧ w'.cell? ⟨y, 0, none⟩ = some (.bool yg) ∧ w'.cell? ⟨y, 1, none⟩ = some ys) (by kernel_rfl) ?_
  (refine wpG_take (i := 0) (v := ?_) rfl rfl (by kernel_rfl) (by kernel_rfl) (by kernel_rfl) (fun _ _ _ h => h) (Or.inl ⟨by rfl, fun w => ?_⟩) (Or.inr hS) ?_; rotate_left; focus (go_simp; first | done | with_reducible rfl | exact rfl)); (try simp only [Act.put, List.setIfInBounds_toArray, List.set_cons_zero, List.set_cons_succ, List.getElem_toArray, List.getElem_cons_zero, List.getElem_cons_succ]); (refine wpG_take (i := 1) (v := ?_) rfl rfl (by kernel_rfl) (by kernel_rfl) (by kernel_rfl) (fun _ _ _ h => h) (Or.inl ⟨by rfl, fun w => ?_⟩) (Or.inr hS) ?_; rotate_left; focus (go_simp; first | done | with_reducible rfl | exact rfl)); (try simp only [Act.put, List.setIfInBounds_toArray, List.set_cons_zero, List.set_cons_succ, List.getElem_toArray, List.getElem_cons_zero, List.getElem_cons_succ]); (refine wpG_take (i := 2) (v := ?_) rfl rfl (by kernel_rfl) (by kernel_rfl) (by kernel_rfl) (fun _ _ _ h => h) (Or.inl ⟨by rfl, fun w => ?_⟩) (Or.inr hS) ?_; rotate_left; focus (go_simp; first | done | with_reducible rfl | exact rfl)); (try simp only [Act.put, List.setIfInBounds_toArray, List.set_cons_zero, List.set_cons_succ, List.getElem_toArray, List.getElem_cons_zero, List.getElem_cons_succ]); (refine wpG_take (i := 3) (v := ?_) rfl rfl (by kernel_rfl) (by kernel_rfl) (by kernel_rfl) (fun _ _ _ h => h) (Or.inl ⟨by rfl, fun w => ?_⟩) (Or.inr hS) ?_; rotate_left; focus (go_simp; first | done | with_reducible rfl | exact rfl)); (try simp only [Act.put, List.setIfInBounds_toArray, List.set_cons_zero, List.set_cons_succ, List.getElem_toArray, List.getElem_cons_zero, List.getElem_cons_succ])
  (refine wpG_ld (i := 4) 18 (v := ?_) rfl rfl (by kernel_rfl) (by kernel_rfl) (by kernel_rfl) (by kernel_rfl) (fun _ _ _ h => h) (Or.inl ⟨by rfl, ?_⟩) hS ?_; rotate_left; focus (intro w hSw; (try dsimp only at hSw); go_simp; first | done | with_reducible rfl | exact rfl)); (try simp only [Act.put, List.setIfInBounds_toArray, List.set_cons_zero, List.set_cons_succ, List.getElem_toArray, List.getElem_cons_zero, List.getElem_cons_succ])
  (refine wpG_take (i := 5) (v := ?_) rfl rfl (by kernel_rfl) (by kernel_rfl) (by kernel_rfl) (fun _ _ _ h => h) (Or.inl ⟨by rfl, fun w => ?_⟩) (Or.inr hS) ?_; rotate_left; focus (go_simp; first | done | with_reducible rfl | exact rfl)); (try simp only [Act.put, List.setIfInBounds_toArray, List.set_cons_zero, List.set_cons_succ, List.getElem_toArray, List.getElem_cons_zero, List.getElem_cons_succ]); (refine wpG_take (i := 6) (v := ?_) rfl rfl (by kernel_rfl) (by kernel_rfl) (by kernel_rfl) (fun _ _ _ h => h) (Or.inl ⟨by rfl, fun w => ?_⟩) (Or.inr hS) ?_; rotate_left; focus (go_simp; first | done | with_reducible rfl | exact rfl)); (try simp only [Act.put, List.setIfInBounds_toArray, List.set_cons_zero, List.set_cons_succ, List.getElem_toArray, List.getElem_cons_zero, List.getElem_cons_succ]); (refine wpG_take (i := 7) (v := ?_) rfl rfl (by kernel_rfl) (by kernel_rfl) (by kernel_rfl) (fun _ _ _ h => h) (Or.inl ⟨by rfl, fun w => ?_⟩) (Or.inr hS) ?_; rotate_left; focus (go_simp; first | done | with_reducible rfl | exact rfl)); (try simp only [Act.put, List.setIfInBounds_toArray, List.set_cons_zero, List.set_cons_succ, List.getElem_toArray, List.getElem_cons_zero, List.getElem_cons_succ])
  (refine wpG_ld (i := 8) 18 (v := ?_) rfl rfl (by kernel_rfl) (by kernel_rfl) (by kernel_rfl) (by kernel_rfl) (fun _ _ _ h => h) (Or.inl ⟨by rfl, ?_⟩) hS ?_; rotate_left; focus (intro w hSw; (try dsimp only at hSw); go_simp; first | done | with_reducible rfl | exact rfl)); (try simp only [Act.put, List.setIfInBounds_toArray, List.set_cons_zero, List.set_cons_succ, List.getElem_toArray, List.getElem_cons_zero, List.getElem_cons_succ])
  (refine wpG_take (i := 9) (v := ?_) rfl rfl (by kernel_rfl) (by kernel_rfl) (by kernel_rfl) (fun _ _ _ h => h) (Or.inl ⟨by rfl, fun w => ?_⟩) (Or.inr hS) ?_; rotate_left; focus (go_simp; first | done | with_reducible rfl | exact rfl)); (try simp only [Act.put, List.setIfInBounds_toArray, List.set_cons_zero, List.set_cons_succ, List.getElem_toArray, List.getElem_cons_zero, List.getElem_cons_succ]); (refine wpG_take (i := 10) (v := ?_) rfl rfl (by kernel_rfl) (by kernel_rfl) (by kernel_rfl) (fun _ _ _ h => h) (Or.inl ⟨by rfl, fun w => ?_⟩) (Or.inr hS) ?_; rotate_left; focus (go_simp; first | done | with_reducible rfl | exact rfl)); (try simp only [Act.put, List.setIfInBounds_toArray, List.set_cons_zero, List.set_cons_succ, List.getElem_toArray, List.getElem_cons_zero, List.getElem_cons_succ]); (refine wpG_take (i := 11) (v := ?_) rfl rfl (by kernel_rfl) (by kernel_rfl) (by kernel_rfl) (fun _ _ _ h => h) (Or.inl ⟨by rfl, fun w => ?_⟩) (Or.inr hS) ?_; rotate_left; focus (go_simp; first | done | with_reducible rfl | exact rfl)); (try simp only [Act.put, List.setIfInBounds_toArray, List.set_cons_zero, List.set_cons_succ, List.getElem_toArray, List.getElem_cons_zero, List.getElem_cons_succ])
  (refine wpG_ld (i := 12) 13 (v := ?_) rfl rfl (by kernel_rfl) (by kernel_rfl) (by kernel_rfl) (by kernel_rfl) (fun _ _ _ h => h) (Or.inl ⟨by rfl, ?_⟩) hS ?_; rotate_left; focus (intro w hSw; (try dsimp only at hSw); go_simp; first | done | with_reducible rfl | exact rfl)); (try simp only [Act.put, List.setIfInBounds_toArray, List.set_cons_zero, List.set_cons_succ, List.getElem_toArray, List.getElem_cons_zero, List.getElem_cons_succ])
  (refine wpG_take (i := 13) (v := ?_) rfl rfl (by kernel_rfl) (by kernel_rfl) (by kernel_rfl) (fun _ _ _ h => h) (Or.inl ⟨by rfl, fun w => ?_⟩) (Or.inr hS) ?_; rotate_left; focus (go_simp; first | done | with_reducible rfl | exact rfl)); (try simp only [Act.put, List.setIfInBounds_toArray, List.set_cons_zero, List.set_cons_succ, List.getElem_toArray, List.getElem_cons_zero, List.getElem_cons_succ]); (refine wpG_take (i := 14) (v := ?_) rfl rfl (by kernel_rfl) (by kernel_rfl) (by kernel_rfl) (fun _ _ _ h => h) (Or.inl ⟨by rfl, fun w => ?_⟩) (Or.inr hS) ?_; rotate_left; focus (go_simp; first | done | with_reducible rfl | exact rfl)); (try simp only [Act.put, List.setIfInBounds_toArray, List.set_cons_zero, List.set_cons_succ, List.getElem_toArray, List.getElem_cons_zero, List.getElem_cons_succ]); (refine wpG_take (i := 15) (v := ?_) rfl rfl (by kernel_rfl) (by kernel_rfl) (by kernel_rfl) (fun _ _ _ h => h) (Or.inl ⟨by rfl, fun w => ?_⟩) (Or.inr hS) ?_; rotate_left; focus (go_simp; first | done | with_reducible rfl | exact rfl)); (try simp only [Act.put, List.setIfInBounds_toArray, List.set_cons_zero, List.set_cons_succ, List.getElem_toArray, List.getElem_cons_zero, List.getElem_cons_succ]); (refine wpG_take (i := 16) (v := ?_) rfl rfl (by kernel_rfl) (by kernel_rfl) (by kernel_rfl) (fun _ _ _ h => h) (Or.inl ⟨by rfl, fun w => ?_⟩) (Or.inr hS) ?_; rotate_left; focus (go_simp; first | done | with_reducible rfl | exact rfl)); (try simp only [Act.put, List.setIfInBounds_toArray, List.set_cons_zero, List.set_cons_succ, List.getElem_toArray, List.getElem_cons_zero, List.getElem_cons_succ])
  (refine wpG_ld (i := 17) 18 (v := ?_) rfl rfl (by kernel_rfl) (by kernel_rfl) (by kernel_rfl) (by kernel_rfl) (fun _ _ _ h => h) (Or.inl ⟨by rfl, ?_⟩) hS ?_; rotate_left; focus (intro w hSw; (try dsimp only at hSw); go_simp; first | done | with_reducible rfl | exact rfl)); (try simp only [Act.put, List.setIfInBounds_toArray, List.set_cons_zero, List.set_cons_succ, List.getElem_toArray, List.getElem_cons_zero, List.getElem_cons_succ])
  clear hS
  refine wpG_one (i := 18) (by kernel_rfl) rfl (fun K hK => ?_); have HK := Lib.hid hK; clear hK
  go_simp
  refine (LW.out _ (dr_below _)).mono ?_
  rintro e w1 ⟨ng, v1, n, rfl, hW, hv, hb⟩
  have HW := Lib.hid hW
  have HV := Lib.hid hv
  have HB := Lib.hid ((dr_below w).trans hb)
  refine HK.out _ _ (Or.inl (by kernel_rfl)) ?_
  clear hW hb HK K hv
  (try simp only [Act.put, List.setIfInBounds_toArray, List.set_cons_zero, List.set_cons_succ, List.getElem_toArray, List.getElem_cons_zero, List.getElem_cons_succ])
  (refine wpG_take (i := 19) (v := ?_) rfl rfl (by kernel_rfl) (by kernel_rfl) (by kernel_rfl) (fun _ _ _ h => h) (Or.inl ⟨by rfl, fun w => ?_⟩) (Or.inl (by kernel_rfl)) ?_; rotate_left; focus (go_simp; first | done | with_reducible rfl | exact rfl)); (try simp only [Act.put, List.setIfInBounds_toArray, List.set_cons_zero, List.set_cons_succ, List.getElem_toArray, List.getElem_cons_zero, List.getElem_cons_succ]); (refine wpG_take (i := 20) (v := ?_) rfl rfl (by kernel_rfl) (by kernel_rfl) (by kernel_rfl) (fun _ _ _ h => h) (Or.inl ⟨by rfl, fun w => ?_⟩) (Or.inl (by kernel_rfl)) ?_; rotate_left; focus (go_simp; first | done | with_reducible rfl | exact rfl)); (try simp only [Act.put, List.setIfInBounds_toArray, List.set_cons_zero, List.set_cons_succ, List.getElem_toArray, List.getElem_cons_zero, List.getElem_cons_succ])
  refine wpG_one (i := 21) (by kernel_rfl) rfl (fun K hK => ?_); have HK := Lib.hid hK; clear hK
  go_simp
  refine (give_c (HZ0.out.blk.below HB.out) HZ0.out.wd.sl HW.out ng).mono ?_
  rintro e w2 ⟨rfl, hI, hz⟩
  have HI := Lib.hid hI
  have HZ := Lib.hid hz
  refine HK.out _ _ (Or.inl (by kernel_rfl)) ?_
  clear hI hz HK K
  (try simp only [Act.put, List.setIfInBounds_toArray, List.set_cons_zero, List.set_cons_succ, List.getElem_toArray, List.getElem_cons_zero, List.getElem_cons_succ])
  refine wpG_one (i := 22) (by kernel_rfl) rfl (fun K hK => ?_); have HK := Lib.hid hK; clear hK; go_simp; refine HK.out _ _ (Or.inl (by kernel_rfl)) ?_; clear HK K; (try simp only [Act.put, List.setIfInBounds_toArray, List.set_cons_zero, List.set_cons_succ, List.getElem_toArray, List.getElem_cons_zero, List.getElem_cons_succ])
  refine wpG_done (by kernel_rfl) ?_ _
  go_wp2
  go_ret
  exact ⟨rfl, by rw [← E2.out, ← HV.out]; exact HI.out, (Bz.of HB.out).trans HZ.out⟩
def sgnI (v : Int) : Int := if v < 0 then -1 else if 0 < v then 1 else 0
theorem isign_c {w : World} {x : Nat} {v : Int} (hx : IntAt w x v) : Calls Tryz.prog 86 #[pt x] w fun e w' => e = .returned (.int .i64 (sgnI v)) ∧ w = w' := by
  obtain ⟨xg, xs, b, hx⟩ := hx.rd
  have c0 := hx.blk.c0
  have c1 := hx.blk.c1
  obtain ⟨A, c, l, rfl, hl, ⟨hC, hT⟩, hN, hn⟩ := hx.wd
  have h0 := hN.zero
  rw [hn] at h0
  have hnn : 0 ≤ b := by rw [← hn]; exact nv_nonneg hN.1
  have hv := hx.val
  have hz := hx.nz
  have H0 := Lib.hid h0
  have HV := Lib.hid hv
  have HZ := Lib.hid hz
  have HN := Lib.hid hnn
  clear hx hC hN hn h0 hv hz hnn
  by_cases hl0 : 0 < l.length
  · have k1 : ((l.length : Int) == 0) = false := by rw [beq_eq_false_iff_ne]; omega
    have k2 : (l.length == 0) = false := by rw [beq_eq_false_iff_ne]; omega
    have hb : b ≠ 0 := fun h => by rw [H0.out.1 h] at hl0; simp at hl0
    have HB := Lib.hid hb
    clear hb
    cases xg
    all_goals
      go_enter Tryz.func86, Tryz.ntmps86
      go_wp2
      go_ret
      refine ⟨ret_int ?_, rfl⟩
      have h1 := HV.out
      have h2 := HN.out
      have h3 := HB.out
      unfold sg at h1
      unfold sgnI
      simp at h1
      subst h1
      split <;> (try split) <;> omega
  · have e : l = [] := List.eq_nil_of_length_eq_zero (by omega)
    have hb := H0.out.2 e
    have HB := Lib.hid hb
    subst e
    clear hb hl0
    go_enter Tryz.func86, Tryz.ntmps86
    go_wp2
    go_ret
    refine ⟨ret_int ?_, rfl⟩
    rw [HV.out, HB.out]
    unfold sg sgnI
    cases xg <;> simp
end Go.Proofs.YtmndoelimincdaaGreatDoor

/- bignum's Int, more: Abs, Rsh, BitLen, TrailingZeroBits, Cmp. -/
namespace Go.Proofs.YtmndoelimincdaaGreatDoor
open Go Go.RowKit Nv
open Go.Proofs.YtmndoelimincdaaGreatDoorW.PrintWords (Kd Drawn0)
open XBn
set_option maxRecDepth 100000
set_option linter.unusedSimpArgs false

theorem right_w {w : World} {v : Value} {a : Int} (h : Wd w v a) (hs : Sm a) (n : Nat) (hn : n ≤ 10000000) : Calls Tryz.prog 117 #[v, .int .u64 n] w (WPost ((a.toNat / 2 ^ n : Nat) : Int) w) := by
  obtain ⟨A, c, l, rfl, hl, ⟨hC, hT⟩, hN, rfl⟩ := h
  have hlen := len_of hN hs
  obtain ⟨r, h1, h2, h3, h4⟩ := right_f l hN.1 n (by omega) (by omega) (2 * l.length + 8) (Nat.le_refl _)
  refine (bignum_right.calls _ A c l n r w hC hl h1).mono ?_
  rintro e w' ⟨v, rfl, hR, hb⟩
  exact ⟨v, rfl, wd_of hR h3 h2, hb⟩
theorem length_w {w : World} {v : Value} {a : Int} (h : Wd w v a) (hs : Sm a) : Calls Tryz.prog 142 #[v] w fun e w' => e = .returned (.int .i64 (bl a.toNat)) ∧ Below w.heap.size w w' := by
  obtain ⟨A, c, l, rfl, hl, ⟨hC, hT⟩, hN, rfl⟩ := h
  have hlen := len_of hN hs
  refine (bignum_length.calls 40 A c l _ w hC hl (length_f l hN (by omega) 40 (Nat.le_refl _))).mono ?_
  rintro e w' ⟨rfl, hd⟩
  exact ⟨rfl, hd.below⟩
theorem bit_w {w : World} {v : Value} {a : Int} (h : Wd w v a) (hs : Sm a) (i : Nat) (hi : i ≤ 9223372036854775807) : Calls Tryz.prog 141 #[v, .int .i64 i] w fun e w' => e = .returned (.int .u64 ((a.toNat / 2 ^ i % 2 : Nat) : Int)) ∧ Below w.heap.size w w' := by
  obtain ⟨A, c, l, rfl, hl, ⟨hC, hT⟩, hN, rfl⟩ := h
  have hlen := len_of hN hs
  refine (bignum_bit.calls A c l _ _ w hC hl (bit_f l hN.1 (by omega) i hi)).mono ?_
  rintro e w' ⟨rfl, hd⟩
  exact ⟨rfl, hd.below⟩
set_option maxHeartbeats 1600000 in
theorem iabs_c {w : World} {z x : Nat} {u v : Int} (hz : IntAt w z u) (hx : IntAt w x v) (hs : Sm v.natAbs) : Calls Tryz.prog 78 #[pt z, pt x] w (GPost z (v.natAbs : Int) w) := by
  obtain ⟨zg, zs, a, hz⟩ := hz.rd
  obtain ⟨xg, xs, b, hx⟩ := hx.rd
  have hb := hx.sm hs
  have e2 : sg false b = (v.natAbs : Int) := hx.abs.symm
  have c0 := hx.blk.c0
  have c1 := hx.blk.c1
  have HX := Lib.hid hx
  have HZ0 := Lib.hid hz
  have E2 := Lib.hid e2
  have lw : ∀ w', Below w.heap.size w w' → Calls Tryz.prog 113 #[xs] w' (WPost b w') := fun w' h => twin_w (hx.wd.below h) hb
  have LW := Lib.hid lw
  clear hz hx e2 hs hb lw
  go_enter Tryz.func78, Tryz.ntmps78
  go_wp2_with (first
    | (go_at_call 113; refine (LW.out _ (Below.refl _ _)).mono ?_; rintro e w1 ⟨v1, rfl, hW, hb⟩; have HW := Lib.hid hW; have HB := Lib.hid hb; clear hW hb)
    | (go_at_call 112; refine (give_c (HZ0.out.blk.below HB.out) HZ0.out.wd.sl HW.out false).mono ?_; rintro e w2 ⟨rfl, hI, hz⟩; have HI := Lib.hid hI; have HZ := Lib.hid hz; clear hI hz))
  go_ret
  exact ⟨rfl, by rw [← E2.out]; exact HI.out, (Bz.of HB.out).trans HZ.out⟩
set_option maxHeartbeats 1600000 in
theorem rsh_c {w : World} {z x : Nat} {u v : Int} (hz : IntAt w z u) (hx : IntAt w x v) (hs : Sm v.natAbs) (h0 : 0 ≤ v) (n : Nat) (hn : n ≤ 10000000) : Calls Tryz.prog 82 #[pt z, pt x, .int .u64 n] w (GPost z ((v.toNat / 2 ^ n : Nat) : Int) w) := by
  obtain ⟨zg, zs, a, hz⟩ := hz.rd
  obtain ⟨xg, xs, b, hx⟩ := hx.rd
  have hb := hx.sm hs
  have hg : xg = false := by
    cases xg
    · rfl
    · exfalso
      have h1 := hx.val
      have h2 := hx.nz rfl
      have h3 := hx.wd.nonneg
      unfold sg at h1
      simp only [if_true] at h1
      omega
  subst hg
  have ev : v = b := hx.val
  subst ev
  have c0 := hx.blk.c0
  have c1 := hx.blk.c1
  have HX := Lib.hid hx
  have HZ0 := Lib.hid hz
  have lw : ∀ w', Below w.heap.size w w' → Calls Tryz.prog 117 #[xs, .int .u64 n] w' (WPost ((v.toNat / 2 ^ n : Nat) : Int) w') := fun w' h => right_w (hx.wd.below h) hb n hn
  have LW := Lib.hid lw
  obtain ⟨r, hr⟩ : ∃ r : Int, ((v.toNat / 2 ^ n : Nat) : Int) = r := ⟨_, rfl⟩
  rw [hr] at LW ⊢
  clear hz hx hs hb lw hr h0 hn
  go_enter Tryz.func82, Tryz.ntmps82
  go_wp2_with (first
    | (go_at_call 117; refine (LW.out _ (Below.refl _ _)).mono ?_; rintro e w1 ⟨v1, rfl, hW, hb⟩; have HW := Lib.hid hW; have HB := Lib.hid hb; clear hW hb)
    | (go_at_call 112; refine (give_c (HZ0.out.blk.below HB.out) HZ0.out.wd.sl HW.out false).mono ?_; rintro e w2 ⟨rfl, hI, hz⟩; have HI := Lib.hid hI; have HZ := Lib.hid hz; clear hI hz))
  go_ret
  exact ⟨rfl, HI.out, (Bz.of HB.out).trans HZ.out⟩
theorem bitlen_c {w : World} {x : Nat} {v : Int} (hx : IntAt w x v) (hs : Sm v.natAbs) : Calls Tryz.prog 126 #[pt x] w fun e w' => e = .returned (.int .i64 (bl v.natAbs)) ∧ Below w.heap.size w w' := by
  obtain ⟨xg, xs, b, hx⟩ := hx.rd
  have hb := hx.sm hs
  have c1 := hx.blk.c1
  have e : v.natAbs = b.toNat := by have := hx.abs; omega
  have LW := Lib.hid (length_w hx.wd hb)
  rw [e]
  obtain ⟨r, hr⟩ : ∃ r : Int, (bl b.toNat : Int) = r := ⟨_, rfl⟩
  rw [hr] at LW ⊢
  clear hx hs hb e hr
  go_enter Tryz.func126, Tryz.ntmps126
  go_wp2_with (go_at_call 142; (with_reducible refine (LW.out).mono ?_); rintro e w1 ⟨rfl, hb⟩; have HB := Lib.hid hb; clear hb)
  go_ret
  exact ⟨rfl, HB.out⟩
/-- The trailing noughts. -/
def tz (m n : Nat) : Prop := m = 2 ^ n * (m / 2 ^ n) ∧ (m / 2 ^ n) % 2 = 1
theorem tz_zero_bits {m : Nat} (n : Nat) (h : ∀ i, i < n → m / 2 ^ i % 2 = 0) : m = 2 ^ n * (m / 2 ^ n) := by
  induction n with
  | zero => rw [Nat.pow_zero, Nat.one_mul, Nat.div_one]
  | succ n ih =>
    have h1 := ih (fun i hi => h i (by omega))
    have h2 := h n (by omega)
    have h3 : m / 2 ^ (n + 1) = m / 2 ^ n / 2 := by rw [Nat.pow_succ, Nat.div_div_eq_div_mul]
    obtain ⟨q, hq⟩ : ∃ q, m / 2 ^ n = 2 * q := ⟨m / 2 ^ n / 2, by omega⟩
    rw [h3, Nat.pow_succ, hq, Nat.mul_div_cancel_left q (by decide), Nat.mul_assoc, ← hq]
    exact h1
set_option maxHeartbeats 1600000 in
theorem tzb_c {w : World} {x : Nat} {v : Int} (hx : IntAt w x v) (hs : Sm v.natAbs) (h0 : v ≠ 0) (hl : bl v.natAbs ≤ 1000000000) : Calls Tryz.prog 125 #[pt x] w fun e w' => ∃ n : Nat, e = .returned (.int .u64 n) ∧ tz v.natAbs n ∧ n < bl v.natAbs ∧ Below w.heap.size w w' := by
  obtain ⟨xg, xs, b, hx⟩ := hx.rd
  have hb := hx.sm hs
  have e : v.natAbs = b.toNat := by have := hx.abs; omega
  have bw : ∀ w', Below w.heap.size w w' → ∀ i : Nat, i ≤ 9223372036854775807 → Calls Tryz.prog 141 #[xs, .int .i64 i] w' fun e w2 => e = .returned (.int .u64 ((v.natAbs / 2 ^ i % 2 : Nat) : Int)) ∧ Below w'.heap.size w' w2 := fun w' h i hi => by rw [e]; exact bit_w (hx.wd.below h) hb i hi
  have BW := Lib.hid bw
  have KB := Lib.hid hx.blk
  obtain ⟨A, c, l, rfl, hl2, ⟨hC, hT⟩, hN, hn⟩ := hx.wd
  have hlen : 0 < l.length := by
    rcases Nat.eq_zero_or_pos l.length with h | h
    · exfalso
      have h1 := List.eq_nil_of_length_eq_zero h
      subst h1
      rw [nv_nil] at hn
      omega
    · exact h
  have k1 : (l.length == 0) = false := by rw [beq_eq_false_iff_ne]; omega
  have k2 : ((l.length : Int) == 0) = false := by rw [beq_eq_false_iff_ne]; omega
  obtain ⟨m, hm⟩ : ∃ m, v.natAbs = m := ⟨_, rfl⟩
  have hm0 : m ≠ 0 := by omega
  rw [hm] at BW hl ⊢
  have c1 := KB.out.c1
  have HM := Lib.hid hm0
  clear hx hs hb e bw hC hN hn h0 hm hl2
  go_enter Tryz.func125, Tryz.ntmps125
  go_wp2
  go_loopw [3] (fun v3 wr => ∃ n : Nat, v3 = .int .u64 n ∧ n < bl m ∧ Hid (Below w.heap.size w wr ∧ ∀ i, i < n → m / 2 ^ i % 2 = 0)) (fun v3 _ => bl m - (intOf v3).toNat)
  case atStart => exact ⟨0, rfl, by rw [bl_pos HM.out]; omega, Lib.hid ⟨Below.refl _ _, fun i hi => absurd hi (by omega)⟩⟩
  case round =>
    obtain ⟨n, rfl, hn, hq⟩ := hrel
    have c1 := (KB.out.below hq.out.1).c1
    have e1 : IntKind.i64.wrap (n : Int) = (n : Int) := by rw [IntKind.wrap_i64]; omega
    have e2 : IntKind.u64.wrap ((n : Int) + 1) = ((n + 1 : Nat) : Int) := by rw [IntKind.wrap_u64]; omega
    have BC := Lib.hid (BW.out wr hq.out.1 n (by omega))
    have HQ := Lib.hid hq.out
    clear hq
    rcases Nat.mod_two_eq_zero_or_one (m / 2 ^ n) with h | h
    · rw [h] at BC
      have next : n + 1 < bl m := by
        rcases Nat.lt_or_ge (n + 1) (bl m) with h1 | h1
        · exact h1
        · exfalso
          have e3 : bl m = n + 1 := by omega
          have h2 := bl_le HM.out
          have h3 := bl_lt m
          rw [e3, Nat.add_sub_cancel] at h2
          rw [e3, Nat.pow_succ] at h3
          have h4 : m / 2 ^ n = 1 := by
            refine (Nat.div_eq_iff (Nat.two_pow_pos n)).2 ⟨by omega, by omega⟩
          rw [h4] at h; cases h
      have ZZ := Lib.hid h
      clear h
      go_wp2_with (go_at_call 141; (with_reducible refine (BC.out).mono ?_); rintro e w1 ⟨rfl, hb⟩; have HB := Lib.hid hb; clear hb)
      go_roundw
      case rel => exact ⟨n + 1, by go_num, next, Lib.hid ⟨bl_then HQ.out.1 HB.out, fun i hi => by
        rcases Nat.lt_or_ge i n with h1 | h1
        · exact HQ.out.2 i h1
        · obtain rfl : i = n := by omega
          exact ZZ.out⟩⟩
      case measure => simp [intOf]; omega
    · rw [h] at BC
      have T := Lib.hid (show tz m n from ⟨tz_zero_bits n HQ.out.2, h⟩)
      clear h
      go_wp2_with (go_at_call 141; (with_reducible refine (BC.out).mono ?_); rintro e w1 ⟨rfl, hb⟩; have HB := Lib.hid hb; clear hb)
      go_ret
      exact ⟨n, rfl, T.out, hn, bl_then HQ.out.1 HB.out⟩
def cmpZ (a b : Int) : Int := if a < b then -1 else if b < a then 1 else 0
theorem cmp_q {w : World} {u v : Value} {a b : Int} (h : Wd w u a) (k : Wd w v b) (hs : Sm a) : Calls Tryz.prog 120 #[u, v] w fun e w' => e = .returned (.int .i64 (cmpZ a b)) ∧ ∃ n, w' = w.drewN n := by
  obtain ⟨A, c, l, rfl, hl, ⟨hC, hT⟩, hN, rfl⟩ := h
  obtain ⟨B, d, m, rfl, km, ⟨kC, kT⟩, kN, rfl⟩ := k
  have hlen := len_of hN hs
  refine (bignum_cmp.calls _ A c l B d m _ w hC hl kC km (cmp_f l m hN kN (by omega) _ (Nat.lt_succ_self _))).mono ?_
  rintro e w' ⟨rfl, hd⟩
  exact ⟨rfl, hd.out⟩
set_option maxHeartbeats 1600000 in
theorem icmp_c {w : World} {x y : Nat} {v t : Int} (hx : IntAt w x v) (hy : IntAt w y t) (hs : Sm v.natAbs) : Calls Tryz.prog 84 #[pt x, pt y] w fun e w' => e = .returned (.int .i64 (cmpZ v t)) ∧ Below w.heap.size w w' := by
  obtain ⟨xg, xs, a, hx⟩ := hx.rd
  obtain ⟨yg, ys, b, hy⟩ := hy.rd
  have ha := hx.sm hs
  have n1 := hx.wd.nonneg
  have n2 := hy.wd.nonneg
  have z1 := hx.nz
  have z2 := hy.nz
  have v1 := hx.val
  have v2 := hy.val
  have c0 := hx.blk.c0
  have c1 := hx.blk.c1
  have d0 := hy.blk.c0
  have d1 := hy.blk.c1
  have KX := Lib.hid hx.blk
  have CW : Hid (∀ w', Below w.heap.size w w' → Calls Tryz.prog 120 #[xs, ys] w' fun e w2 => e = .returned (.int .i64 (cmpZ a b)) ∧ ∃ n, w2 = w'.drewN n) := Lib.hid (fun w' h => cmp_q (hx.wd.below h) (hy.wd.below h) ha)
  have RES : Hid (cmpZ v t = if xg = yg then (if xg = true then -cmpZ a b else cmpZ a b) else (if xg = true then -1 else 1)) := Lib.hid (by
    unfold sg at v1 v2
    unfold cmpZ
    cases xg <;> cases yg <;> simp at v1 v2 z1 z2 ⊢ <;> (repeat' split) <;> omega)
  obtain ⟨C, hC⟩ : ∃ C, cmpZ a b = C := ⟨_, rfl⟩
  have cr : -1 ≤ C ∧ C ≤ 1 := by rw [← hC]; unfold cmpZ; (repeat' split) <;> omega
  rw [hC] at CW RES
  have wn : wrap64 (-C) = -C := by unfold wrap64; omega
  clear hx hy hs ha n1 n2 z1 z2 v1 v2 hC cr
  cases xg <;> cases yg
  · go_enter Tryz.func84, Tryz.ntmps84
    go_wp2
    go_quiet (fail)
    go_wp2
    have BW := Lib.hid (bl_drewN (Below.refl w.heap.size w) nq)
    have c1' : (w.drewN nq).cell? ⟨x, 1, none⟩ = some xs := c1
    have d1' : (w.drewN nq).cell? ⟨y, 1, none⟩ = some ys := d1
    have cc0 : (w.drewN nq).cell? ⟨x, 0, none⟩ = some (.bool _) := c0
    obtain ⟨w1, hw1⟩ : ∃ w1, w.drewN nq = w1 := ⟨_, rfl⟩
    rw [hw1] at c1' d1' cc0 BW
    simp only [hw1]
    clear hw1 c0 c1 d0 d1
    go_quiet ((go_at_call 120; exact Calls.quiet_of (CW.out _ (bl_drewN BW.out _))))
    go_wp2
    go_ret
    exact ⟨by rw [RES.out]; simp [wn, IntKind.wrap], bl_drewN BW.out _⟩
  · go_enter Tryz.func84, Tryz.ntmps84
    go_wp2
    go_quiet (fail)
    go_wp2
    go_ret
    exact ⟨by rw [RES.out]; simp, by repeat' (first | (with_reducible exact Below.refl _ _) | (with_reducible refine bl_alloc ?_ _) | (with_reducible refine bl_drewN ?_ _) | (with_reducible refine bl_drew ?_) | (with_reducible refine bl_set ?_ _ (by simp)))⟩
  · go_enter Tryz.func84, Tryz.ntmps84
    go_wp2
    go_quiet (fail)
    go_wp2
    go_ret
    exact ⟨by rw [RES.out]; simp, by repeat' (first | (with_reducible exact Below.refl _ _) | (with_reducible refine bl_alloc ?_ _) | (with_reducible refine bl_drewN ?_ _) | (with_reducible refine bl_drew ?_) | (with_reducible refine bl_set ?_ _ (by simp)))⟩
  · go_enter Tryz.func84, Tryz.ntmps84
    go_wp2
    go_quiet (fail)
    go_wp2
    have BW := Lib.hid (bl_drewN (Below.refl w.heap.size w) nq)
    have c1' : (w.drewN nq).cell? ⟨x, 1, none⟩ = some xs := c1
    have d1' : (w.drewN nq).cell? ⟨y, 1, none⟩ = some ys := d1
    have cc0 : (w.drewN nq).cell? ⟨x, 0, none⟩ = some (.bool _) := c0
    obtain ⟨w1, hw1⟩ : ∃ w1, w.drewN nq = w1 := ⟨_, rfl⟩
    rw [hw1] at c1' d1' cc0 BW
    simp only [hw1]
    clear hw1 c0 c1 d0 d1
    go_quiet ((go_at_call 120; exact Calls.quiet_of (CW.out _ (bl_drewN BW.out _))))
    go_wp2
    go_ret
    exact ⟨by rw [RES.out]; simp [wn, IntKind.wrap], bl_drewN BW.out _⟩
end Go.Proofs.YtmndoelimincdaaGreatDoor

/- A region that draws its order, more: a load whose value goes a longer way to the writing call. -/
namespace Go.Proofs.YtmndoelimincdaaGreatDoor
open Go
section
variable {P : Program} {ops : Array Oper} {Q : Exit → Act → World → Prop} {md : Region.Mode} {S : World → Prop} {g : Nat}
/-- Each waits for the one ahead of it. -/
def chainW (md : Region.Mode) (ops : Array Oper) : Nat → List Nat → Bool
  | _, [] => true
  | i, c :: r => Waits md ops c i && chainW md ops c r
theorem chainW.not_ready {listed : Array Bool} : ∀ (cs : List Nat) (i : Nat), chainW md ops i cs = true → listed.getD i true = false → (∀ c ∈ cs, listed.getD c true = false) → ∀ c ∈ cs, c ∉ Region.ready md ops listed
  | [], _, _, _, _, _, h => by cases h
  | c :: r, i, hw, hi, hc, d, hd => by
    unfold chainW at hw
    simp only [Bool.and_eq_true] at hw
    rcases List.mem_cons.1 hd with rfl | hd
    · exact Waits.not_ready hw.1 hi
    · exact chainW.not_ready r c hw.2 (hc c (by simp)) (fun x hx => hc x (by simp [hx])) d hd
theorem wpG_loadC {i : Nat} (cs : List Nat) {oi : Oper} {v : Value} (hgi : i ≠ g) (hcs : chainW md ops i cs = true) (hgc : g ∈ cs) (hi : ops[i]? = some oi) (hsel : ∀ (j : Nat) (o : Oper) cs b, ops[j]? = some o → o.op ≠ .select cs b)
    (hQ : ∀ c a w, Q (.panic c) (a.put oi.dst v) w → Q (.panic c) a w) :
    ∀ (fuel : Nat) (listed : Array Bool) (a : Act) (w : World),
      (∀ j oj, ops[j]? = some oj → j ≠ i → listed.getD j true = false → (∀ e ∈ oj.after, Region.binds md e = true → e.on ≠ i) → oi.apart ops oj = true) →
      i ∈ Region.ready md ops listed → (∀ c ∈ cs, listed.getD c true = false) → YieldsIf P ops S oi v a → S w →
      wpG P md ops Q S g fuel (listed.setIfInBounds i true) (a.put oi.dst v) w → wpG P md ops Q S g (fuel + 1) listed a w := by
  intro fuel
  induction fuel with
  | zero =>
    intro listed a w _ hr hc hy hS H
    refine ⟨fun h => (by rw [h] at hr; cases hr), fun j hj => ?_⟩
    by_cases hji : j = i
    · subst hji; exact hy.wpOp hi hS ⟨.inr hS, H⟩
    · have := ready_mono hj hji
      rw [H.1] at this
      cases this
  | succ fuel ih =>
    intro listed a w hfree hr hc hy hS H
    refine ⟨fun h => (by rw [h] at hr; cases hr), fun j hj => ?_⟩
    by_cases hji : j = i
    · subst hji; exact hy.wpOp hi hS ⟨.inr hS, H⟩
    · have h1 := H.2 j (ready_mono hj hji)
      have hun := (mem_ready.1 hr).1
      have hjc : ∀ c ∈ cs, j ≠ c := fun c hc' h => chainW.not_ready cs i hcs hun hc c hc' (h ▸ hj)
      have hjg : j ≠ g := hjc g hgc
      obtain ⟨hjun, oj, hoj, hall⟩ := mem_ready.1 hj
      have hnot : ∀ e ∈ oj.after, Region.binds md e = true → e.on ≠ i := fun e he hb heq => by
        have h1 := hall e he hb
        rw [heq] at h1
        rcases Nat.lt_or_ge i listed.size with h' | h'
        · simp [h'] at hun h1; rw [hun] at h1; cases h1
        · simp [Array.getElem?_eq_none h'] at h1
      have h2 := wpOp_putIf hoj (hfree j oj hoj hji hjun hnot) (fun cs b => hsel i oi cs b hi) (fun cs b => hsel j oj cs b hoj) hQ hy h1
      have hfree' : ∀ k ok, ops[k]? = some ok → k ≠ i → (listed.setIfInBounds j true).getD k true = false →
          (∀ e ∈ ok.after, Region.binds md e = true → e.on ≠ i) → oi.apart ops ok = true := fun k ok hk hki hun hno => by
        refine hfree k ok hk hki ?_ hno
        by_cases hjk : j = k
        · subst hjk; exact hjun
        · rw [getD_set_ne true hjk] at hun; exact hun
      refine wpOp_mono (fun a' w' h3 => ?_) h2
      have e : (listed.setIfInBounds j true).setIfInBounds i true = (listed.setIfInBounds i true).setIfInBounds j true := Array.setIfInBounds_comm _ _ hji
      have hS2 : S w' := by
        rcases h3.2.1 with h4 | h4
        · rw [← e, getD_set_ne true hgi, getD_set_ne true hjg, hc g hgc] at h4; cases h4
        · exact h4
      exact ⟨.inr hS2, ih (listed.setIfInBounds j true) a' w' hfree' (ready_mono hr (Ne.symm hji)) (fun c hc' => by rw [getD_set_ne true (hjc c hc')]; exact hc c hc') h3.1 hS2 (by rw [e]; exact h3.2.2)⟩
theorem wpG_ldC {i : Nat} (cs : List Nat) {oi : Oper} {v : Value} {fuel : Nat} {listed : Array Bool} {a : Act} {w : World} (hi : ops[i]? = some oi) (hgi : (i != g) = true)
    (hs : Region.noSelect ops = true) (hf : Region.free md ops listed i = true) (hr : (Region.ready md ops listed).contains i = true)
    (hw : (chainW md ops i cs && cs.contains g && cs.all (fun c => !(listed.getD c true))) = true)
    (hQ : ∀ c a w, Q (.panic c) (a.put oi.dst v) w → Q (.panic c) a w) (hy : YieldsIf P ops S oi v a) (hS : S w)
    (h : wpG P md ops Q S g fuel (listed.setIfInBounds i true) (a.put oi.dst v) w) : wpG P md ops Q S g (fuel + 1) listed a w := by
  simp only [Bool.and_eq_true, List.all_eq_true, Bool.not_eq_true'] at hw
  exact wpG_loadC cs (by simpa using hgi) hw.1.1 (by simpa using hw.1.2) hi (Region.noSelect_spec hs) hQ fuel listed a w (Region.free_spec hi hf) (by simpa using hr) (fun c hc => hw.2 c hc) hy hS h
end
end Go.Proofs.YtmndoelimincdaaGreatDoor

/- A region that draws its order, more: what is left may come in any order; an assertion about what has come up so far, told operation by operation. -/
namespace Go.Proofs.YtmndoelimincdaaGreatDoor
open Go
section
variable {P : Program} {ops : Array Oper} {Q : Exit → Act → World → Prop} {md : Region.Mode} {S : World → Prop} {g : Nat}
/-- Number i has come up. -/
def On (l : Array Bool) (i : Nat) : Prop := l.getD i true = true
theorem On.set {l : Array Bool} {i j : Nat} (h : On l j) : On (l.setIfInBounds i true) j := by
  unfold On at *
  by_cases e : i = j
  · subst e
    rw [Array.getD_eq_getD_getElem?, Array.getElem?_setIfInBounds]
    simp only [if_true]
    split <;> rfl
  · rw [getD_set_ne true e]; exact h
/-- Each waits for operations ahead of it alone. -/
def orderly (md : Region.Mode) (ops : Array Oper) : Bool := (List.range ops.size).all fun i => match ops[i]? with
  | some o => o.after.all fun e => !(Region.binds md e) || decide (e.on < i)
  | none => true
theorem On.all {l : Array Bool} (ho : orderly md ops = true) (hs : l.size = ops.size) (hr : Region.ready md ops l = []) : ∀ i, On l i := by
  intro i
  induction i using Nat.strongRecOn with
  | ind i ih =>
    unfold On
    cases hi : l.getD i true with
    | true => rfl
    | false =>
      exfalso
      have hlt : i < l.size := by
        rcases Nat.lt_or_ge i l.size with h | h
        · exact h
        · simp [Array.getElem?_eq_none h] at hi
      have hm : i ∈ Region.ready md ops l := by
        refine mem_ready.2 ⟨hi, ops[i]'(by omega), by simp, fun e he hb => ?_⟩
        have h1 := List.all_eq_true.1 ho i (List.mem_range.2 (by omega))
        rw [show ops[i]? = some (ops[i]'(by omega)) by simp] at h1
        have h2 : e.on < i := by
          simp only [Array.all_eq_true_iff_forall_mem, Bool.or_eq_true, Bool.not_eq_true', decide_eq_true_eq] at h1
          rcases h1 e he with h3 | h3
          · rw [hb] at h3; cases h3
          · exact h3
        have h3 := ih e.on h2
        unfold On at h3
        have h4 : e.on < l.size := by omega
        simpa [h4] using h3
      rw [hr] at hm
      cases hm
section
variable {ξ : Type} {A : ξ → Act} {J : Array Bool → ξ → World → Prop}
def StepAt (P : Program) (md : Region.Mode) (ops : Array Oper) (Q : Exit → Act → World → Prop) (A : ξ → Act) (J : Array Bool → ξ → World → Prop) (i : Nat) : Prop :=
  ∀ (l : Array Bool) (x : ξ) (w : World) (K : Act → World → Prop), l.getD i true = false → (∀ j, Waits md ops i j = true → On l j) → J l x w → (∀ x' w', J (l.setIfInBounds i true) x' w' → K (A x') w') →
    ∃ o, ops[i]? = some o ∧ if Region.wanted o (yielded ops (A x).tmps) = true then Oper.wp P o (A x) w K Q else K ((A x).put o.dst undef) w
def Steps (P : Program) (md : Region.Mode) (ops : Array Oper) (Q : Exit → Act → World → Prop) (A : ξ → Act) (J : Array Bool → ξ → World → Prop) : List Nat → Prop
  | [] => True
  | i :: r => StepAt P md ops Q A J i ∧ Steps P md ops Q A J r
theorem Steps.at {i : Nat} : ∀ (I : List Nat), Steps P md ops Q A J I → i ∈ I → StepAt P md ops Q A J i
  | [], _, h => by cases h
  | _ :: r, hs, h => by
    rcases List.mem_cons.1 h with rfl | h
    · exact hs.1
    · exact Steps.at r hs.2 h
end
end
end Go.Proofs.YtmndoelimincdaaGreatDoor

/- bignum's Int: low words, of words, And, Or, of numbers not below nought; Uint64. -/
namespace Go.Proofs.YtmndoelimincdaaGreatDoor
open Go Go.RowKit Nv
open Go.Proofs.YtmndoelimincdaaGreatDoorW.PrintWords (Kd Drawn0 gate_dst)
open XBn
set_option maxRecDepth 100000
set_option linter.unusedSimpArgs false

/-- A block that is a row of words. -/
def RowW (w : World) (g : Nat) (l : List Int) : Prop := w.heap[g]? = some (.cells (l.map (Value.int .u32)).toArray 113 (0, 0)) ∧ l.length ≤ 9223372036854775807
theorem RowW.cell {w : World} {g i : Nat} {l : List Int} (h : RowW w g l) (hi : i < l.length) : w.cell? ⟨g, i, none⟩ = some (.int .u32 l[i]) := kb_cell h.1 (by simp [hi])
theorem RowW.fz {w : World} {g : Nat} {l : List Int} (h : RowW w g l) (i : Nat) : w.frozen? ⟨g, i, none⟩ = false := kb_frozen h.1 i
theorem RowW.lt {w : World} {g : Nat} {l : List Int} (h : RowW w g l) : g < w.heap.size := kb_lt h.1
theorem RowW.below {w w' : World} {g : Nat} {l : List Int} (h : RowW w g l) (hb : Below w.heap.size w w') : RowW w' g l := ⟨kb_keep hb h.1, h.2⟩
theorem rw_setc {w : World} {g : Nat} {cs : Array Value} {t : TypeId} (h : w.heap[g]? = some (.cells cs t (0, 0))) (i : Nat) (u : Value) : (w.setCell ⟨g, i, none⟩ u).heap[g]? = some (.cells (cs.setIfInBounds i u) t (0, 0)) := by
  simp [World.setCell, Array.getElem?_modify, h]
theorem rw_far {w : World} {g k : Nat} (h : k ≠ g) (i : Nat) (u : Value) : (w.setCell ⟨g, i, none⟩ u).heap[k]? = w.heap[k]? := by
  simp [World.setCell, Array.getElem?_modify, Ne.symm h]
theorem RowW.set {w : World} {g : Nat} {l : List Int} (h : RowW w g l) (i : Nat) (d : Int) : RowW (w.setCell ⟨g, i, none⟩ (.int .u32 d)) g (l.set i d) := by
  refine ⟨?_, by rw [List.length_set]; exact h.2⟩
  rw [rw_setc h.1]
  congr 2
  apply Array.ext'
  simp [List.map_set]
theorem RowW.far {w : World} {g k : Nat} {l : List Int} (h : RowW w k l) (hne : k ≠ g) (i : Nat) (u : Value) : RowW (w.setCell ⟨g, i, none⟩ u) k l := ⟨by rw [rw_far hne]; exact h.1, h.2⟩
theorem RowW.C {w : World} {g : Nat} {l : List Int} (h : RowW w g l) : Kd.C (Kd.int .u32) w (some ⟨g, 0, none⟩) l.length l := by
  refine ⟨rfl, h.2, fun h0 => ⟨_, rfl, fun j p hp => ?_⟩⟩
  obtain ⟨hj, e⟩ := List.getElem?_eq_some_iff.1 hp
  refine ⟨[.int .u32 p], rfl, rfl, fun i u hu => ?_⟩
  have hi : i = 0 := by
    have := (List.getElem?_eq_some_iff.1 hu).1
    simp at this; exact this
  subst hi
  have hu : u = .int .u32 p := by simpa using hu.symm
  rw [hu, ← e]
  have := h.cell hj
  rw [show (Addr.add ⟨g, 0, none⟩ (j * (Kd.int IntKind.u32).sz + 0)) = ⟨g, j, none⟩ by simp [Addr.add, show (Kd.int IntKind.u32).sz = 1 from rfl]; intro h; exact h.symm]
  exact this
theorem Wd.cells {w : World} {v : Value} {n : Int} (h : Wd w v n) : ∃ A c l, v = .slice A l.length c ∧ l.length ≤ c ∧ Nm l ∧ nv l = n ∧ (0 < l.length → ∃ ad, A = some ad ∧ ∀ j (hj : j < l.length), w.cell? (ad.add j) = some (.int .u32 l[j])) := by
  obtain ⟨A, c, l, rfl, hl, ⟨hC, hT⟩, hN, hn⟩ := h
  refine ⟨A, c, l, rfl, hl, hN, hn, fun h0 => ?_⟩
  obtain ⟨ad, e, hc⟩ := hC.2.2 h0
  refine ⟨ad, e, fun j hj => ?_⟩
  obtain ⟨cs, _, hK, hcs⟩ := hc j _ (List.getElem?_eq_getElem hj)
  have hK : cs = [.int .u32 l[j]] := hK
  subst hK
  have := hcs 0 _ rfl
  rw [show (Kd.int IntKind.u32).sz = 1 from rfl] at this
  simpa using this
theorem made_words (n : Nat) : madeCells (Value.int .u32 0).cells n = ((List.replicate n (0 : Int)).map (Value.int .u32)).toArray := by
  apply Array.ext'
  simp only [madeCells, Value.cells]
  simp
  apply List.ext_getElem (by simp)
  intro i h1 h2
  simp [Nat.mod_one]
theorem kb_cX {w w' : World} {a : Addr} {v : Value} (hb : Below w.heap.size w w') (h : w.cell? a = some v) : w'.cell? a = some v := (hb.cell (World.block_lt_of_cell? w _ h)).trans h
/-- What a copy lays over a row of noughts. -/
theorem over_zeros {l : List Int} {n : Nat} (_h : l.length ≤ n) : splice ((List.replicate n (0 : Int)).map (Value.int .u32)) 0 (l.map (Value.int .u32)) = (l ++ List.replicate (n - l.length) 0).map (Value.int .u32) := by
  unfold splice
  simp [List.drop_replicate]
theorem nN_app_zeros (l : List Int) (k : Nat) (h : Dg l) : Dg (l ++ List.replicate k 0) ∧ nN (l ++ List.replicate k 0) = nN l := by
  refine ⟨Dg.app.2 ⟨h, Dg.zeros _⟩, ?_⟩
  unfold nN
  rw [nv_app, nv_zeros, Int.mul_zero, Int.add_zero]
set_option maxHeartbeats 2000000 in
theorem low_c {w : World} {x : Nat} (l : List Int) (A : Option Addr) (c : Nat) (hb : IntB w x false (.slice A l.length c)) (hc : 0 < l.length → ∃ ad, A = some ad ∧ ∀ j (hj : j < l.length), w.cell? (ad.add j) = some (.int .u32 l[j])) (n : Nat) (h1 : l.length ≤ n) (h2 : n ≤ 1000002) :
    Calls Tryz.prog 135 #[pt x, .int .i64 n] w fun e w' => e = .returned (.slice (some ⟨w.heap.size, 0, none⟩) n n) ∧ RowW w' w.heap.size (l ++ List.replicate (n - l.length) 0) ∧ Below w.heap.size w w' := by
  obtain ⟨i0, hi, hzz⟩ := Option.map_eq_some_iff.1 info113
  simp only [Prod.mk.injEq] at hzz
  obtain ⟨hz0, hz1, hz2⟩ := hzz
  have mk : ∀ w : World, (Instr.makeSlice 83 (.int .i64 (n : Int)) (.int .i64 (n : Int))).run Tryz.prog w = .ok (.slice (some ⟨w.heap.size, 0, none⟩) n n) (w.alloc (.cells ((List.replicate n (0 : Int)).map (Value.int .u32)).toArray 113)) := fun w => by
    have h := run_make (P := Tryz.prog) w 83 113 i0 (.int .u32 0) Tryz.underlying83 hi hz0 .i64 .i64 (n : Int) (n : Int) (by omega) (by omega) (by rw [hz2]; omega) (by omega)
    rw [Int.toNat_natCast, hz1, Nat.mul_one, made_words] at h
    exact h
  have c0 := hb.c0
  have c1 := hb.c1
  have HC := Lib.hid hc
  have KB := Lib.hid hb
  have B1 := Lib.hid (bl_alloc (Below.refl w.heap.size w) (.cells ((List.replicate n (0 : Int)).map (Value.int .u32)).toArray 113))
  have K1 := Lib.hid (kb_new (w := w) (o := .cells ((List.replicate n (0 : Int)).map (Value.int .u32)).toArray 113) (Below.refl _ _))
  have cc1 := (KB.out.below (bl_alloc (Below.refl w.heap.size w) (.cells ((List.replicate n (0 : Int)).map (Value.int .u32)).toArray 113))).c1
  obtain ⟨Z, hZ⟩ : ∃ Z, ((List.replicate n (0 : Int)).map (Value.int .u32)).toArray = Z := ⟨_, rfl⟩
  have ZL : Hid (Z.toList = (List.replicate n (0 : Int)).map (Value.int .u32)) := Lib.hid (by rw [← hZ])
  rw [hZ] at mk B1 K1 cc1
  clear hc hi hz0 hz1 hz2 hb hZ
  go_enter Tryz.func135, Tryz.ntmps135
  go_upto_region 2 with (fail)
  obtain ⟨w1, hw1⟩ : ∃ w1, w.alloc (.cells Z 113) = w1 := ⟨_, rfl⟩
  rw [hw1] at B1 K1 cc1
  simp only [hw1]
  clear hw1 mk
  have HPOS : Hid (0 < (l.map (Value.int .u32)).length → (some (⟨w.heap.size, 0, none⟩ : Addr)) = some ⟨w.heap.size, 0, none⟩ ∧ ∃ ad, A = some ad ∧ ∀ j u, (l.map (Value.int .u32))[j]? = some u → w1.cell? (ad.add j) = some u) := Lib.hid (fun h0 => ⟨rfl, by
    obtain ⟨ad, e, h⟩ := HC.out (by simpa using h0)
    refine ⟨ad, e, fun j u hu => ?_⟩
    rw [List.getElem?_map] at hu
    obtain ⟨p, hp, rfl⟩ := Option.map_eq_some_iff.1 hu
    obtain ⟨hj, e2⟩ := List.getElem?_eq_some_iff.1 hp
    rw [← e2]
    exact kb_cX B1.out (h j hj)⟩)
  have HONE : Hid (∀ u ∈ l.map (Value.int .u32), u.oneCell' = true) := Lib.hid (fun u hu => by obtain ⟨y, _, rfl⟩ := List.mem_map.1 hu; rfl)
  have HMIN : Hid ((l.map (Value.int .u32)).length = Nat.min l.length n) := Lib.hid (by simp; exact (Nat.min_eq_left h1).symm)
  have HFIT : Hid (0 + (l.map (Value.int .u32)).length ≤ Z.toList.length) := Lib.hid (by rw [ZL.out]; simp; exact h1)
  have HSZ : Hid ((Tryz.prog.info? 113).map (·.size) = some 1) := Lib.hid (by kernel_rfl)
  have HG : Hid (w1.heap[w.heap.size]? = some (.cells Z.toList.toArray 113 (0, 0))) := Lib.hid (by simpa using K1.out)
  go_wp2_with (first
    | ((with_reducible refine gate_dst (N := 15) rfl ?_); go_loud (refine wpList_copy_splice rfl _ _ 83 83 rfl 113 Tryz.underlying83 HSZ.out _ _ n n l.length c rfl rfl w.heap.size 0 Z.toList 113 HG.out (l.map (Value.int .u32)) HMIN.out HPOS.out HFIT.out HONE.out w.heap.size w B1.out (Nat.le_refl _) ?_); intro w2 hg2 hb2; have HB2 := Lib.hid hb2; have c0 := (KB.out.below hb2).c0; clear hb2))
  go_ret
  exact ⟨rfl, ⟨by rw [hg2.out, ZL.out, over_zeros h1], by simp; omega⟩, HB2.out⟩
theorem sz1 : (Kd.int IntKind.u32).sz = 1 := rfl
/-- A row of one's own, as the print's words have it. -/
theorem RowW.R {w : World} {base g : Nat} {l : List Int} (h : RowW w g l) (hb : base ≤ g) : Kd.R (Kd.int .u32) 113 w base (fun k => k = g) (.slice (some ⟨g, 0, none⟩) l.length l.length) l := by
  refine ⟨fun k hk => ?_, ⟨l.map (Value.int .u32), ⟨by simp [sz1], Or.inr ⟨g, l.length, _, rfl, hb, h.1, Nat.le_refl _, by unfold maxLen; exact h.2, by simp [sz1], by simp [sz1, List.take_of_length_le]⟩⟩, map_reps l⟩⟩
  simp [Value.ownBlock] at hk
  exact hk.symm
set_option maxHeartbeats 2000000 in
theorem of_c {w0 w : World} {z g : Nat} {u : Int} {r : List Int} (hz : IntAt w0 z u) (hB : Below w0.heap.size w0 w) (hg : w0.heap.size ≤ g) (hr : RowW w g r) (hd : Dg r) (hn : 0 < r.length) (hl : r.length ≤ 1000002) (ht : ∀ h : r.length - 1 < r.length, r[r.length - 1] < 2147483648) :
    Calls Tryz.prog 136 #[pt z, .slice (some ⟨g, 0, none⟩) r.length r.length] w fun e w' => e = .returned (pt z) ∧ IntAt w' z (nv r) ∧ Bz z w0 w' := by
  obtain ⟨zg, zs, a, hz⟩ := hz.rd
  have hi : r.length - 1 < r.length := by omega
  have d := hd.at hi
  have tt := ht hi
  have cl := hr.cell hi
  obtain ⟨T, hT⟩ : ∃ T, r[r.length - 1] = T := ⟨_, rfl⟩
  rw [hT] at d tt cl
  have sh : T / 2147483648 = 0 := by omega
  have iw : IntKind.i64.wrap ((r.length : Int) - 1) = ((r.length - 1 : Nat) : Int) := by rw [IntKind.wrap_i64]; omega
  have ib : ((r.length - 1 : Nat) : Int) < (r.length : Int) := by omega
  have k1 : decide ((0 : Int) < (r.length : Int)) = true := decide_eq_true (by omega)
  have k2 : decide (0 < r.length) = true := decide_eq_true hn
  obtain ⟨o, h1, h2, h3, h4⟩ := trim_f r hd (by omega) (r.length + 1) (by omega)
  have TC : Hid (Calls Tryz.prog 138 #[.slice (some ⟨g, 0, none⟩) r.length r.length] w fun e w' => ∃ v, e = .returned v ∧ Wd w' v (nv r) ∧ Below w0.heap.size w0 w') := Lib.hid ((bignum_trim.calls _ _ _ r o w0 w hB (hr.R hg) h1).mono (fun e w' ⟨v, e1, hR, hb, _⟩ => ⟨v, e1, wd_of hR h3 h2, hb⟩))
  have HZ0 := Lib.hid hz
  have hn0 : (0 : Int) ≤ ((r.length - 1 : Nat) : Int) := Int.natCast_nonneg _
  clear hr hd hl ht hT h1 h2 h3 h4 hz hB hg
  go_enter Tryz.func136, Tryz.ntmps136
  go_wp2_with (first
    | (go_at_call 138; (with_reducible refine (TC.out).mono ?_); rintro e w1 ⟨v1, rfl, hW, hb⟩; have HW := Lib.hid hW; have HB := Lib.hid hb; clear hW hb)
    | (go_at_call 112; refine (give_c (HZ0.out.blk.below HB.out) HZ0.out.wd.sl HW.out false).mono ?_; rintro e w2 ⟨rfl, hI, hz⟩; have HI := Lib.hid hI; have HZ := Lib.hid hz; clear hI hz))
  go_ret
  exact ⟨rfl, HI.out, (Bz.of HB.out).trans HZ.out⟩
/-- What stands at the head of the loop of And (of Or, with the other operation). -/
structure AndL (op : Nat → Nat → Nat) (w0 w : World) (g1 g2 : Nat) (la lb r : List Int) (i : Nat) : Prop where
  b : Below w0.heap.size w0 w
  r1 : RowW w g1 r
  r2 : RowW w g2 lb
  dg : Dg r
  len : r.length = la.length
  low : nN (r.take i) = op (nN la) (nN lb) % 4294967296 ^ i
  rest : ∀ j (h : j < r.length) (h' : j < la.length), i ≤ j → r[j] = la[j]
theorem AndL.next {op : Nat → Nat → Nat} {w0 w : World} {g1 g2 i d : Nat} {la lb r : List Int} (h : AndL op w0 w g1 g2 la lb r i) (hg : w0.heap.size ≤ g1) (hne : g2 ≠ g1) (hi : i < r.length) (hd : d = op (nN la) (nN lb) / 4294967296 ^ i % 4294967296) :
    AndL op w0 (w.setCell ⟨g1, i, none⟩ (.int .u32 (d : Int))) g1 g2 la lb (r.set i (d : Int)) (i + 1) := by
  obtain ⟨q1, q2⟩ := nN_set h.dg hi h.low hd
  refine ⟨bl_set h.b _ hg, h.r1.set i d, h.r2.far hne i _, q1, by rw [List.length_set]; exact h.len, q2, fun j h1 h2 h3 => ?_⟩
  rw [List.getElem_set_ne (by omega)]
  exact h.rest j (by rw [List.length_set] at h1; exact h1) h2 (by omega)
theorem AndL.drew {op : Nat → Nat → Nat} {w0 w : World} {g1 g2 i : Nat} {la lb r : List Int} (h : AndL op w0 w g1 g2 la lb r i) : AndL op w0 w.drew g1 g2 la lb r i := ⟨bl_drew h.b, h.r1.below (dr_below _), h.r2.below (dr_below _), h.dg, h.len, h.low, h.rest⟩
theorem pow_B (i : Nat) : (4294967296 : Nat) ^ i = 2 ^ (32 * i) := by rw [show (4294967296 : Nat) = 2 ^ 32 by decide, ← Nat.pow_mul]
theorem and_digit (x y i : Nat) : (x / 4294967296 ^ i % 4294967296) &&& (y / 4294967296 ^ i % 4294967296) = (x &&& y) / 4294967296 ^ i % 4294967296 := by
  rw [pow_B, Nat.and_div_two_pow, show (4294967296 : Nat) = 2 ^ 32 by decide, Nat.and_mod_two_pow]
theorem or_digit (x y i : Nat) : (x / 4294967296 ^ i % 4294967296) ||| (y / 4294967296 ^ i % 4294967296) = (x ||| y) / 4294967296 ^ i % 4294967296 := by
  rw [pow_B, Nat.or_div_two_pow, show (4294967296 : Nat) = 2 ^ 32 by decide, Nat.or_mod_two_pow]
set_option maxHeartbeats 4000000 in
theorem iand_c {w : World} {z x y : Nat} {u v t : Int} (hz : IntAt w z u) (hx : IntAt w x v) (hy : IntAt w y t) (hv : 0 ≤ v) (ht : 0 ≤ t) (hs : Sm v) (ks : Sm t) : Calls Tryz.prog 143 #[pt z, pt x, pt y] w fun e w' => e = .returned (pt z) ∧ IntAt w' z ((v.toNat &&& t.toNat : Nat) : Int) ∧ Bz z w w' := by
  obtain ⟨xg, xs, a, hx⟩ := hx.rd
  obtain ⟨yg, ys, b, hy⟩ := hy.rd
  have gx : xg = false := by
    cases xg
    · rfl
    · exfalso; have h1 := hx.val; have h2 := hx.nz rfl; have h3 := hx.wd.nonneg; unfold sg at h1; simp only [if_true] at h1; omega
  have gy : yg = false := by
    cases yg
    · rfl
    · exfalso; have h1 := hy.val; have h2 := hy.nz rfl; have h3 := hy.wd.nonneg; unfold sg at h1; simp only [if_true] at h1; omega
  subst gx gy
  have ev : v = a := hx.val
  have et : t = b := hy.val
  subst ev et
  have bx := hx.blk
  have by_ := hy.blk
  obtain ⟨A, cA, l, rfl, hl, hN, hn, hC⟩ := hx.wd.cells
  obtain ⟨B, cB, m, rfl, hm, hM, hm2, hD⟩ := hy.wd.cells
  have ll := len_of hN (by rw [hn]; exact hs)
  have lm := len_of hM (by rw [hm2]; exact ks)
  obtain ⟨n, hnn⟩ : ∃ n, max l.length m.length + 1 = n := ⟨_, rfl⟩
  have n1 : l.length ≤ n := by omega
  have n2 : m.length ≤ n := by omega
  have n3 : n ≤ 1000002 := by omega
  have hle : l.length ≤ n - 1 := by omega
  have np : 0 < n := by omega
  have LX : Hid (∀ w', Below w.heap.size w w' → Calls Tryz.prog 135 #[pt x, .int .i64 n] w' fun e w2 => e = .returned (.slice (some ⟨w'.heap.size, 0, none⟩) n n) ∧ RowW w2 w'.heap.size (l ++ List.replicate (n - l.length) 0) ∧ Below w'.heap.size w' w2) := Lib.hid (fun w' h => low_c l A cA (bx.below h) (fun h0 => by obtain ⟨ad, e, h2⟩ := hC h0; exact ⟨ad, e, fun j hj => kb_cX h (h2 j hj)⟩) n n1 n3)
  have LY : Hid (∀ w', Below w.heap.size w w' → Calls Tryz.prog 135 #[pt y, .int .i64 n] w' fun e w2 => e = .returned (.slice (some ⟨w'.heap.size, 0, none⟩) n n) ∧ RowW w2 w'.heap.size (m ++ List.replicate (n - m.length) 0) ∧ Below w'.heap.size w' w2) := Lib.hid (fun w' h => low_c m B cB (by_.below h) (fun h0 => by obtain ⟨ad, e, h2⟩ := hD h0; exact ⟨ad, e, fun j hj => kb_cX h (h2 j hj)⟩) n n2 n3)
  obtain ⟨za, ea⟩ := nN_app_zeros l (n - l.length) hN.1
  obtain ⟨zb, eb⟩ := nN_app_zeros m (n - m.length) hM.1
  have la : (l ++ List.replicate (n - l.length) (0 : Int)).length = n := by simp; omega
  have lb : (m ++ List.replicate (n - m.length) (0 : Int)).length = n := by simp; omega
  have ea2 : nN (l ++ List.replicate (n - l.length) (0 : Int)) = v.toNat := by rw [ea]; unfold nN; rw [hn]
  have eb2 : nN (m ++ List.replicate (n - m.length) (0 : Int)) = t.toNat := by rw [eb]; unfold nN; rw [hm2]
  obtain ⟨L, hL⟩ : ∃ L, l ++ List.replicate (n - l.length) (0 : Int) = L := ⟨_, rfl⟩
  obtain ⟨M, hM'⟩ : ∃ M, m ++ List.replicate (n - m.length) (0 : Int) = M := ⟨_, rfl⟩
  rw [hL] at LX za la ea2
  rw [hM'] at LY zb lb eb2
  have hcase : (l.length < m.length ∧ wrap64 ((m.length : Int) + 1) = (n : Int) ∧ IntKind.i64.wrap ((m.length : Int) + 1) = (n : Int)) ∨ (¬ l.length < m.length ∧ wrap64 ((l.length : Int) + 1) = (n : Int) ∧ IntKind.i64.wrap ((l.length : Int) + 1) = (n : Int)) := by
    rcases Nat.lt_or_ge l.length m.length with h | h
    · have e : (m.length : Int) + 1 = (n : Int) := by omega
      rw [e]
      exact Or.inl ⟨h, by unfold wrap64; omega, by rw [IntKind.wrap_i64]; omega⟩
    · have e : (l.length : Int) + 1 = (n : Int) := by omega
      rw [e]
      exact Or.inr ⟨by omega, by unfold wrap64; omega, by rw [IntKind.wrap_i64]; omega⟩
  have c1 := bx.c1
  have d1 := by_.c1
  have HZ0 := Lib.hid hz
  have BX := Lib.hid bx
  have BY := Lib.hid by_
  have HV := Lib.hid hv
  have HT := Lib.hid ht
  have ZA := Lib.hid za
  have ZB := Lib.hid zb
  have LA := Lib.hid la
  have LB := Lib.hid lb
  have EA := Lib.hid ea2
  have EB := Lib.hid eb2
  have N3 := Lib.hid n3
  have NP := Lib.hid np
  have SML : Hid (v.toNat < 4294967296 ^ (n - 1)) := Lib.hid (by
    have h1 := nN_lt hN.1
    have h2 : nN l = v.toNat := by unfold nN; rw [hn]
    rw [h2] at h1
    exact Nat.lt_of_lt_of_le h1 (Nat.pow_le_pow_right (Nat.zero_lt_succ _) hle))
  clear hle np hz hx hy bx by_ hv ht za zb la lb ea eb ea2 eb2 hC hD hN hM hn hm2 hs ks hnn n1 n2 n3 hL hM' hl hm ll lm
  rcases hcase with ⟨hc, wE, wE2⟩ | ⟨hc, wE, wE2⟩
  all_goals
    go_enter Tryz.func143, Tryz.ntmps143
    go_upto_region 1 with (fail)
    have hS : w.drew.cell? ⟨x, 1, none⟩ = some (.slice A l.length cA) ∧ w.drew.cell? ⟨y, 1, none⟩ = some (.slice B m.length cB) := ⟨c1, d1⟩
    refine wp_region_G (g := 12) (S := fun w' => w'.cell? ⟨x, 1, none⟩ = some (.slice A l.length cA) ∧ w'.cell? ⟨y, 1, none⟩ = some (.slice B m.length cB)) (by kernel_rfl) ?_
    (refine wpG_take (i := 0) (v := ?_) rfl rfl (by kernel_rfl) (by kernel_rfl) (by kernel_rfl) (fun _ _ _ h => h) (Or.inl ⟨by rfl, fun w => ?_⟩) (Or.inr hS) ?_; rotate_left; focus (go_simp; first | done | with_reducible rfl | exact rfl)); (try simp only [Act.put, List.setIfInBounds_toArray, List.set_cons_zero, List.set_cons_succ, List.getElem_toArray, List.getElem_cons_zero, List.getElem_cons_succ]); (refine wpG_take (i := 1) (v := ?_) rfl rfl (by kernel_rfl) (by kernel_rfl) (by kernel_rfl) (fun _ _ _ h => h) (Or.inl ⟨by rfl, fun w => ?_⟩) (Or.inr hS) ?_; rotate_left; focus (go_simp; first | done | with_reducible rfl | exact rfl)); (try simp only [Act.put, List.setIfInBounds_toArray, List.set_cons_zero, List.set_cons_succ, List.getElem_toArray, List.getElem_cons_zero, List.getElem_cons_succ]); (refine wpG_take (i := 2) (v := ?_) rfl rfl (by kernel_rfl) (by kernel_rfl) (by kernel_rfl) (fun _ _ _ h => h) (Or.inl ⟨by rfl, fun w => ?_⟩) (Or.inr hS) ?_; rotate_left; focus (go_simp; first | done | with_reducible rfl | exact rfl)); (try simp only [Act.put, List.setIfInBounds_toArray, List.set_cons_zero, List.set_cons_succ, List.getElem_toArray, List.getElem_cons_zero, List.getElem_cons_succ])
    (refine wpG_ldC (i := 3) [4, 12] (v := ?_) rfl rfl (by kernel_rfl) (by kernel_rfl) (by kernel_rfl) (by kernel_rfl) (fun _ _ _ h => h) (Or.inl ⟨by rfl, ?_⟩) hS ?_; rotate_left; focus (intro w hSw; (try dsimp only at hSw); go_simp; first | done | with_reducible rfl | exact rfl)); (try simp only [Act.put, List.setIfInBounds_toArray, List.set_cons_zero, List.set_cons_succ, List.getElem_toArray, List.getElem_cons_zero, List.getElem_cons_succ])
    (refine wpG_take (i := 4) (v := ?_) rfl rfl (by kernel_rfl) (by kernel_rfl) (by kernel_rfl) (fun _ _ _ h => h) (Or.inl ⟨by rfl, fun w => ?_⟩) (Or.inr hS) ?_; rotate_left; focus (go_simp; first | done | with_reducible rfl | exact rfl)); (try simp only [Act.put, List.setIfInBounds_toArray, List.set_cons_zero, List.set_cons_succ, List.getElem_toArray, List.getElem_cons_zero, List.getElem_cons_succ]); (refine wpG_take (i := 5) (v := ?_) rfl rfl (by kernel_rfl) (by kernel_rfl) (by kernel_rfl) (fun _ _ _ h => h) (Or.inl ⟨by rfl, fun w => ?_⟩) (Or.inr hS) ?_; rotate_left; focus (go_simp; first | done | with_reducible rfl | exact rfl)); (try simp only [Act.put, List.setIfInBounds_toArray, List.set_cons_zero, List.set_cons_succ, List.getElem_toArray, List.getElem_cons_zero, List.getElem_cons_succ]); (refine wpG_take (i := 6) (v := ?_) rfl rfl (by kernel_rfl) (by kernel_rfl) (by kernel_rfl) (fun _ _ _ h => h) (Or.inl ⟨by rfl, fun w => ?_⟩) (Or.inr hS) ?_; rotate_left; focus (go_simp; first | done | with_reducible rfl | exact rfl)); (try simp only [Act.put, List.setIfInBounds_toArray, List.set_cons_zero, List.set_cons_succ, List.getElem_toArray, List.getElem_cons_zero, List.getElem_cons_succ]); (refine wpG_take (i := 7) (v := ?_) rfl rfl (by kernel_rfl) (by kernel_rfl) (by kernel_rfl) (fun _ _ _ h => h) (Or.inl ⟨by rfl, fun w => ?_⟩) (Or.inr hS) ?_; rotate_left; focus (go_simp; first | done | with_reducible rfl | exact rfl)); (try simp only [Act.put, List.setIfInBounds_toArray, List.set_cons_zero, List.set_cons_succ, List.getElem_toArray, List.getElem_cons_zero, List.getElem_cons_succ])
    (refine wpG_ldC (i := 8) [9, 12] (v := ?_) rfl rfl (by kernel_rfl) (by kernel_rfl) (by kernel_rfl) (by kernel_rfl) (fun _ _ _ h => h) (Or.inl ⟨by rfl, ?_⟩) hS ?_; rotate_left; focus (intro w hSw; (try dsimp only at hSw); go_simp; first | done | with_reducible rfl | exact rfl)); (try simp only [Act.put, List.setIfInBounds_toArray, List.set_cons_zero, List.set_cons_succ, List.getElem_toArray, List.getElem_cons_zero, List.getElem_cons_succ])
    (refine wpG_take (i := 9) (v := ?_) rfl rfl (by kernel_rfl) (by kernel_rfl) (by kernel_rfl) (fun _ _ _ h => h) (Or.inl ⟨by rfl, fun w => ?_⟩) (Or.inr hS) ?_; rotate_left; focus (go_simp; first | done | with_reducible rfl | exact rfl)); (try simp only [Act.put, List.setIfInBounds_toArray, List.set_cons_zero, List.set_cons_succ, List.getElem_toArray, List.getElem_cons_zero, List.getElem_cons_succ]); (refine wpG_take (i := 10) (v := ?_) rfl rfl (by kernel_rfl) (by kernel_rfl) (by kernel_rfl) (fun _ _ _ h => h) (Or.inl ⟨by rfl, fun w => ?_⟩) (Or.inr hS) ?_; rotate_left; focus (go_simp; first | done | with_reducible rfl | exact rfl)); (try simp only [Act.put, List.setIfInBounds_toArray, List.set_cons_zero, List.set_cons_succ, List.getElem_toArray, List.getElem_cons_zero, List.getElem_cons_succ]); (refine wpG_take (i := 11) (v := ?_) rfl rfl (by kernel_rfl) (by kernel_rfl) (by kernel_rfl) (fun _ _ _ h => h) (Or.inl ⟨by rfl, fun w => ?_⟩) (Or.inr hS) ?_; rotate_left; focus (go_simp; first | done | with_reducible rfl | exact rfl)); (try simp only [Act.put, List.setIfInBounds_toArray, List.set_cons_zero, List.set_cons_succ, List.getElem_toArray, List.getElem_cons_zero, List.getElem_cons_succ])
    refine wpG_one (i := 12) (by kernel_rfl) rfl (fun K hK => ?_); have HK := Lib.hid hK; clear hK; go_simp; refine HK.out _ _ (Or.inl (by kernel_rfl)) ?_; clear HK K; (try simp only [Act.put, List.setIfInBounds_toArray, List.set_cons_zero, List.set_cons_succ, List.getElem_toArray, List.getElem_cons_zero, List.getElem_cons_succ])
    refine wpG_done (by kernel_rfl) ?_ _
    have B1 := Lib.hid (dr_below w)
    obtain ⟨w1, hw1⟩ : ∃ w1, w.drew = w1 := ⟨_, rfl⟩
    rw [hw1] at B1
    simp only [hw1]
    clear hw1 hS c1 d1
    go_upto_region 3 with (first
      | (go_at_call 135; (with_reducible refine (LX.out _ B1.out).mono ?_); rintro e w2 ⟨rfl, hr, hb⟩; have R1 := Lib.hid hr; have B2 := Lib.hid (bl_then B1.out hb); have H1 := Lib.hid (kb_lt hr.1); clear hr hb)
      | (go_at_call 135; (with_reducible refine (LY.out _ B2.out).mono ?_); rintro e w3 ⟨rfl, hr, hb⟩; have R1 := Lib.hid (R1.out.below hb); have R2 := Lib.hid hr; have B3 := Lib.hid (bl_then B2.out hb); clear hr hb))
    have G1 := Lib.hid B1.out.size
    have NE := Lib.hid (Nat.ne_of_gt H1.out)
    obtain ⟨g1, hg1⟩ : ∃ g, w1.heap.size = g := ⟨_, rfl⟩
    obtain ⟨g2, hg2⟩ : ∃ g, w2.heap.size = g := ⟨_, rfl⟩
    rw [hg1] at R1 G1 NE
    rw [hg2] at R2 NE
    simp only [hg1, hg2]
    clear hg1 hg2 LX LY H1 wE wE2 hc
    have P0 : Hid (AndL (fun p q => p &&& q) w w3 g1 g2 L M L 0) := Lib.hid ⟨B3.out, R1.out, R2.out, ZA.out, rfl, by rw [List.take_zero, Nat.pow_zero, Nat.mod_one]; unfold nN; rw [nv_nil]; rfl, fun j h h' _ => rfl⟩
    clear R1 R2 B1 B2 B3
    go_wp2
    go_loopw [10] (fun v10 wr => ∃ (i : Nat) (r : List Int), v10 = .int .i64 i ∧ i ≤ n ∧ Hid (AndL (fun p q => p &&& q) w wr g1 g2 L M r i)) (fun v10 _ => n - (intOf v10).toNat)
    case atStart => exact ⟨0, L, rfl, Nat.zero_le _, P0⟩
    case round =>
      obtain ⟨i, r, rfl, hin, hq⟩ := hrel
      by_cases hlt : i < n
      · have l1 : decide (i < n) = true := decide_eq_true hlt
        have hir : i < r.length := by rw [hq.out.len, LA.out]; exact hlt
        have hiL : i < L.length := by rw [LA.out]; exact hlt
        have hiM : i < M.length := by rw [LB.out]; exact hlt
        have e1 := hq.out.rest i hir hiL (Nat.le_refl _)
        have q1 := nN_digit ZA.out hiL
        have q2 := nN_digit ZB.out hiM
        have dA := ZA.out.at hiL
        have dB := ZB.out.at hiM
        have ca := (hq.out.drew).r1.cell hir
        have cb := (hq.out.drew).r2.cell hiM
        have fa := (hq.out.drew).r1.fz i
        rw [e1] at ca
        obtain ⟨P, hP⟩ : ∃ P : Nat, L[i] = (P : Int) := ⟨L[i].toNat, (Int.toNat_of_nonneg dA.1).symm⟩
        obtain ⟨Q, hQ⟩ : ∃ Q : Nat, M[i] = (Q : Int) := ⟨M[i].toNat, (Int.toNat_of_nonneg dB.1).symm⟩
        rw [hP] at ca dA q1
        rw [hQ] at cb dB q2
        rw [Int.toNat_natCast] at q1 q2
        have op1 : bits .and .u32 (P : Int) (Q : Int) = ((P &&& Q : Nat) : Int) := u32_and_nat P Q (by omega) (by omega)
        have hd : P &&& Q = (nN L &&& nN M) / 4294967296 ^ i % 4294967296 := by rw [q1, q2]; exact and_digit _ _ i
        have NX := Lib.hid (hq.out.drew.next G1.out NE.out hir hd)
        have i0 : (0 : Int) ≤ (i : Int) := Int.natCast_nonneg _
        have i1 : (i : Int) < (n : Int) := by omega
        have wi : IntKind.i64.wrap ((i : Int) + 1) = ((i + 1 : Nat) : Int) := by rw [IntKind.wrap_i64]; have := N3.out; omega
        have HLT := Lib.hid hlt
        clear hq hir hiL hiM e1 q1 q2 dA dB hP hQ hd hlt
        go_upto_region 6 with (fail)
        have hS : wr.drew.cell? ⟨g1, i, none⟩ = some (.int .u32 (P : Int)) ∧ wr.drew.cell? ⟨g2, i, none⟩ = some (.int .u32 (Q : Int)) := ⟨ca, cb⟩
        refine wp_region_G (g := 10) (S := fun w' => w'.cell? ⟨g1, i, none⟩ = some (.int .u32 (P : Int)) ∧ w'.cell? ⟨g2, i, none⟩ = some (.int .u32 (Q : Int))) (by kernel_rfl) ?_
        (refine wpG_take (i := 0) (v := ?_) rfl rfl (by kernel_rfl) (by kernel_rfl) (by kernel_rfl) (fun _ _ _ h => h) (Or.inl ⟨by rfl, fun w => ?_⟩) (Or.inr hS) ?_; rotate_left; focus (go_simp; first | done | with_reducible rfl | exact rfl)); (try simp only [Act.put, List.setIfInBounds_toArray, List.set_cons_zero, List.set_cons_succ, List.getElem_toArray, List.getElem_cons_zero, List.getElem_cons_succ]); (refine wpG_take (i := 1) (v := ?_) rfl rfl (by kernel_rfl) (by kernel_rfl) (by kernel_rfl) (fun _ _ _ h => h) (Or.inl ⟨by rfl, fun w => ?_⟩) (Or.inr hS) ?_; rotate_left; focus (go_simp; first | done | with_reducible rfl | exact rfl)); (try simp only [Act.put, List.setIfInBounds_toArray, List.set_cons_zero, List.set_cons_succ, List.getElem_toArray, List.getElem_cons_zero, List.getElem_cons_succ]); (refine wpG_take (i := 2) (v := ?_) rfl rfl (by kernel_rfl) (by kernel_rfl) (by kernel_rfl) (fun _ _ _ h => h) (Or.inl ⟨by rfl, fun w => ?_⟩) (Or.inr hS) ?_; rotate_left; focus (go_simp; first | done | with_reducible rfl | exact rfl)); (try simp only [Act.put, List.setIfInBounds_toArray, List.set_cons_zero, List.set_cons_succ, List.getElem_toArray, List.getElem_cons_zero, List.getElem_cons_succ])
        (refine wpG_ldC (i := 3) [8, 10] (v := ?_) rfl rfl (by kernel_rfl) (by kernel_rfl) (by kernel_rfl) (by kernel_rfl) (fun _ _ _ h => h) (Or.inl ⟨by rfl, ?_⟩) hS ?_; rotate_left; focus (intro w hSw; (try dsimp only at hSw); go_simp; first | done | with_reducible rfl | exact rfl)); (try simp only [Act.put, List.setIfInBounds_toArray, List.set_cons_zero, List.set_cons_succ, List.getElem_toArray, List.getElem_cons_zero, List.getElem_cons_succ])
        (refine wpG_take (i := 4) (v := ?_) rfl rfl (by kernel_rfl) (by kernel_rfl) (by kernel_rfl) (fun _ _ _ h => h) (Or.inl ⟨by rfl, fun w => ?_⟩) (Or.inr hS) ?_; rotate_left; focus (go_simp; first | done | with_reducible rfl | exact rfl)); (try simp only [Act.put, List.setIfInBounds_toArray, List.set_cons_zero, List.set_cons_succ, List.getElem_toArray, List.getElem_cons_zero, List.getElem_cons_succ]); (refine wpG_take (i := 5) (v := ?_) rfl rfl (by kernel_rfl) (by kernel_rfl) (by kernel_rfl) (fun _ _ _ h => h) (Or.inl ⟨by rfl, fun w => ?_⟩) (Or.inr hS) ?_; rotate_left; focus (go_simp; first | done | with_reducible rfl | exact rfl)); (try simp only [Act.put, List.setIfInBounds_toArray, List.set_cons_zero, List.set_cons_succ, List.getElem_toArray, List.getElem_cons_zero, List.getElem_cons_succ]); (refine wpG_take (i := 6) (v := ?_) rfl rfl (by kernel_rfl) (by kernel_rfl) (by kernel_rfl) (fun _ _ _ h => h) (Or.inl ⟨by rfl, fun w => ?_⟩) (Or.inr hS) ?_; rotate_left; focus (go_simp; first | done | with_reducible rfl | exact rfl)); (try simp only [Act.put, List.setIfInBounds_toArray, List.set_cons_zero, List.set_cons_succ, List.getElem_toArray, List.getElem_cons_zero, List.getElem_cons_succ])
        (refine wpG_ldC (i := 7) [8, 10] (v := ?_) rfl rfl (by kernel_rfl) (by kernel_rfl) (by kernel_rfl) (by kernel_rfl) (fun _ _ _ h => h) (Or.inl ⟨by rfl, ?_⟩) hS ?_; rotate_left; focus (intro w hSw; (try dsimp only at hSw); go_simp; first | done | with_reducible rfl | exact rfl)); (try simp only [Act.put, List.setIfInBounds_toArray, List.set_cons_zero, List.set_cons_succ, List.getElem_toArray, List.getElem_cons_zero, List.getElem_cons_succ])
        (refine wpG_take (i := 8) (v := ?_) rfl rfl (by kernel_rfl) (by kernel_rfl) (by kernel_rfl) (fun _ _ _ h => h) (Or.inl ⟨by rfl, fun w => ?_⟩) (Or.inr hS) ?_; rotate_left; focus (go_simp; first | done | with_reducible rfl | exact rfl)); (try simp only [Act.put, List.setIfInBounds_toArray, List.set_cons_zero, List.set_cons_succ, List.getElem_toArray, List.getElem_cons_zero, List.getElem_cons_succ]); (refine wpG_take (i := 9) (v := ?_) rfl rfl (by kernel_rfl) (by kernel_rfl) (by kernel_rfl) (fun _ _ _ h => h) (Or.inl ⟨by rfl, fun w => ?_⟩) (Or.inr hS) ?_; rotate_left; focus (go_simp; first | done | with_reducible rfl | exact rfl)); (try simp only [Act.put, List.setIfInBounds_toArray, List.set_cons_zero, List.set_cons_succ, List.getElem_toArray, List.getElem_cons_zero, List.getElem_cons_succ])
        try simp only [op1]
        refine wpG_one (i := 10) (by kernel_rfl) rfl (fun K hK => ?_); have HK := Lib.hid hK; clear hK; go_simp; refine HK.out _ _ (Or.inl (by kernel_rfl)) ?_; clear HK K; (try simp only [Act.put, List.setIfInBounds_toArray, List.set_cons_zero, List.set_cons_succ, List.getElem_toArray, List.getElem_cons_zero, List.getElem_cons_succ])
        refine wpG_done (by kernel_rfl) ?_ _
        go_wp2
        go_roundw
        case rel => exact ⟨i + 1, _, by go_num, by have := HLT.out; omega, NX⟩
        case measure => have := HLT.out; simp [intOf]; omega
      · have l1 : decide (i < n) = false := decide_eq_false hlt
        have hin2 : i = n := by omega
        subst hin2
        have hlen : r.length = i := by rw [hq.out.len, LA.out]
        have hp : 0 < r.length := by rw [hlen]; exact NP.out
        have hr := hq.out.r1
        have tot := hq.out.low
        rw [← hlen, List.take_length] at tot
        have hX : nN L &&& nN M < 4294967296 ^ r.length := by
          refine Nat.lt_of_le_of_lt Nat.and_le_left ?_
          have := nN_lt ZA.out
          rw [LA.out] at this
          rw [hlen]; exact this
        rw [Nat.mod_eq_of_lt hX, EA.out, EB.out] at tot
        have OC : Hid (Calls Tryz.prog 136 #[pt z, .slice (some ⟨g1, 0, none⟩) r.length r.length] wr fun e w' => e = .returned (pt z) ∧ IntAt w' z (nv r) ∧ Bz z w w') := Lib.hid (of_c HZ0.out hq.out.b G1.out hr hq.out.dg hp (by rw [hlen]; exact N3.out) (fun h => by
          have hd := nN_digit hq.out.dg h
          rw [tot] at hd
          have hsm : v.toNat &&& t.toNat < 4294967296 ^ (r.length - 1) := by
            refine Nat.lt_of_le_of_lt Nat.and_le_left ?_
            rw [hlen]; exact SML.out
          rw [Nat.div_eq_of_lt hsm] at hd
          have := hq.out.dg.at h
          omega))
        rw [hlen] at OC
        have RV : Hid (nv r = ((v.toNat &&& t.toNat : Nat) : Int)) := Lib.hid ((nN_of_nv hq.out.dg).2 tot)
        clear hq hlt hr tot hX hp hlen
        go_wp2_with (go_at_call 136; (with_reducible refine (OC.out).mono ?_); rintro e w4 ⟨rfl, hI, hz⟩; have HI := Lib.hid hI; have HZ := Lib.hid hz; clear hI hz)
        go_ret
        exact ⟨rfl, by rw [← RV.out]; exact HI.out, HZ.out⟩
end Go.Proofs.YtmndoelimincdaaGreatDoor

import Derived.Test.YtaedkekjekbjmaaGreatDoorFn
import Derived.Test.YtaedkekjekbjmaaGreatDoorFj
import Derived.Test.YtaedkekjekbjmaaGreatDoorFi
import Derived.Deep.DeepCutAuto
import Derived.Deep.LoopGhost
import Derived.Deep.CutBlock
import Derived.Test.YtaedkekjekbjmaaGreatDoorFk
/- bignum's NewInt; sturm's whole. -/
namespace Go.Proofs.YtaedkekjekbjmaaGreatDoor
open Go Go.RowKit Nv GFl
set_option maxRecDepth 100000

/-- A new number is told. -/
def NPost (v : Int) (w : World) (e : Ending) (w' : World) : Prop := ∃ b, e = .returned (pt b) ∧ w.heap.size ≤ b ∧ IntAt w' b v ∧ Below w.heap.size w w'
theorem words_w' (x : Nat) (hx : x < 18446744073709551616) (X : Int) (hX : X = x) (w : World) : Calls Tryz.prog 70 #[.int .u64 X] w (WPost x w) := by subst hX; exact words_w x hx w
theorem setI_c {w : World} {z : Nat} {u : Int} (hz : IntAt w z u) (v : Int) (h1 : -9223372036854775808 ≤ v) (h2 : v ≤ 9223372036854775807) : Calls Tryz.prog 73 #[pt z, .int .i64 v] w (GPost z v w) := by
  obtain ⟨zg, zs, a, hz⟩ := hz.rd
  have HZ0 := Lib.hid hz
  clear hz
  by_cases hv : v < 0
  · have w1 : IntKind.u64.wrap v = v + 18446744073709551616 := by rw [IntKind.wrap_u64]; omega
    have w2 : IntKind.u64.wrap (-(v + 18446744073709551616)) = -v := by rw [IntKind.wrap_u64]; omega
    have ww : ∀ w, Calls Tryz.prog 70 #[.int .u64 (-v)] w (WPost v.natAbs w) := fun w => words_w' v.natAbs (by omega) _ (by omega) w
    have d0 : decide (v < 0) = true := decide_eq_true hv
    have e0 : sg true (v.natAbs : Int) = v := by unfold sg; simp; omega
    have E0 := Lib.hid e0
    have WW := Lib.hid ww
    clear hv h1 h2 e0 ww
    obtain ⟨X, hX⟩ : ∃ X, v + 18446744073709551616 = X := ⟨_, rfl⟩
    rw [hX] at w1 w2
    have HX := Lib.hid hX
    clear hX
    go_enter Tryz.func73, Tryz.ntmps73
    go_wp2_with (first
      | (go_at_call 70; refine (WW.out _).mono ?_; rintro e w1 ⟨v1, rfl, hW, hb⟩; have HW := Lib.hid hW; have HB := Lib.hid hb; clear hW hb)
      | (go_at_call 69; refine (give_c (HZ0.out.blk.below HB.out) HZ0.out.wd.sl HW.out true).mono ?_; rintro e w2 ⟨rfl, hI, hz⟩; have HI := Lib.hid hI; have HZ := Lib.hid hz; clear hI hz))
    go_ret
    exact ⟨rfl, by rw [← E0.out]; exact HI.out, (Bz.of HB.out).trans HZ.out⟩
  · have w1 : IntKind.u64.wrap v = v := by rw [IntKind.wrap_u64]; omega
    have ww : ∀ w, Calls Tryz.prog 70 #[.int .u64 v] w (WPost v.natAbs w) := fun w => words_w' v.natAbs (by omega) _ (by omega) w
    have d0 : decide (v < 0) = false := decide_eq_false hv
    have e0 : sg false (v.natAbs : Int) = v := by unfold sg; simp; omega
    have E0 := Lib.hid e0
    have WW := Lib.hid ww
    clear hv h1 h2 e0 ww
    go_enter Tryz.func73, Tryz.ntmps73
    go_wp2_with (first
      | (go_at_call 70; refine (WW.out _).mono ?_; rintro e w1 ⟨v1, rfl, hW, hb⟩; have HW := Lib.hid hW; have HB := Lib.hid hb; clear hW hb)
      | (go_at_call 69; refine (give_c (HZ0.out.blk.below HB.out) HZ0.out.wd.sl HW.out false).mono ?_; rintro e w2 ⟨rfl, hI, hz⟩; have HI := Lib.hid hI; have HZ := Lib.hid hz; clear hI hz))
    go_ret
    exact ⟨rfl, by rw [← E0.out]; exact HI.out, (Bz.of HB.out).trans HZ.out⟩
theorem newInt_c (v : Int) (h1 : -9223372036854775808 ≤ v) (h2 : v ≤ 9223372036854775807) (w : World) : Calls Tryz.prog 52 #[.int .i64 v] w (NPost v w) := by
  have iz := IntAt.zero w
  have IZ := Lib.hid iz
  clear iz
  go_enter Tryz.func52, Tryz.ntmps52
  go_wp2_with (first
    | (go_at_call 73; refine (setI_c IZ.out v h1 h2).mono ?_; rintro e w2 ⟨rfl, hI, hz⟩; have HI := Lib.hid hI; have HZ := Lib.hid hz; clear hI hz))
  go_ret
  exact ⟨_, rfl, Nat.le_refl _, HI.out, HZ.out.below ((Below.refl _ _).alloc (Nat.le_refl _) _) (by simp) (Nat.le_refl _)⟩
theorem p2_int (n : Nat) : ((p2 n : Nat) : Int) = 2 ^ n := by unfold p2; push_cast; rfl
theorem pow_le_pow {m n : Nat} (h : m ≤ n) : (2 : Int) ^ m ≤ 2 ^ n := by
  obtain ⟨k, rfl⟩ : ∃ k, n = m + k := ⟨n - m, by omega⟩
  rw [Int.pow_add]
  have h1 : (0 : Int) < 2 ^ m := Int.pow_pos (by decide)
  have h2 : (0 : Int) < 2 ^ k := Int.pow_pos (by decide)
  have h3 : (2 : Int) ^ m * 1 ≤ 2 ^ m * 2 ^ k := Int.mul_le_mul_of_nonneg_left (by omega) (Int.le_of_lt h1)
  rw [Int.mul_one] at h3
  exact h3
theorem sm_pow {n : Int} (m : Nat) (h : n < 2 ^ m) (hm : m ≤ 32 * 1000000) : Sm n := by
  unfold Sm
  exact Int.lt_of_lt_of_le h (Int.le_trans (pow_le_pow hm) (Int.le_of_eq (XBn.pow_bs 1000000)))
theorem sm_nat {n m : Nat} (h : n < 2 ^ m) (hm : m ≤ 32 * 1000000) : Sm (n : Int) := sm_pow m (by exact_mod_cast h) hm
theorem IntAt.new {w : World} {z : Nat} (h : z = w.heap.size) : IntAt (w.alloc (.cells #[.bool false, .slice none 0 0] 80)) z 0 := by subst h; exact IntAt.zero w
theorem whole_val {x fr E : Nat} {ex : Int} (hs : IsSplit x fr ex) (hE : ex + 1074 = E) : ((fr : Int) * 2 ^ E) = (mg B52 (rg x) : Int) := by
  have h1 := hs.eq
  rw [hE, Int.toNat_natCast] at h1
  rw [← h1, ← p2_int]; push_cast; rfl
theorem fr_bound {fr E : Nat} (hf : fr < 9007199254740992) (hE : E ≤ 2097) : Sm (((fr : Int) * 2 ^ E).natAbs : Int) := by
  have e : (((fr : Int) * 2 ^ E).natAbs : Int) = ((fr * 2 ^ E : Nat) : Int) := by rw [Int.natAbs_mul, Int.natAbs_pow]; simp
  rw [e]
  refine sm_nat (m := 53 + E) ?_ (by omega)
  rw [Nat.pow_add]
  have h1 : 0 < 2 ^ E := Nat.two_pow_pos E
  have h2 : fr * 2 ^ E < 9007199254740992 * 2 ^ E := (Nat.mul_lt_mul_right h1).2 hf
  have h3 : (2 : Nat) ^ 53 = 9007199254740992 := by decide
  rw [h3]; exact h2
set_option maxHeartbeats 1600000 in
theorem whole_z (x : Nat) (hx : W64 x) (h0 : rg x = 0) (w : World) : Calls Tryz.prog 36 #[.float .f64 x] w (NPost (val x) w) := by
  have sp := split_z x hx h0 w
  have hv : val x = 0 := by rw [val_eq', h0]; simp [mg]
  have HV := Lib.hid hv
  have qs : Sm ((0 : Int).natAbs : Int) := sm_pow 1 (by decide) (by omega)
  have QS := Lib.hid qs
  clear hv hx h0 qs
  cases hn : neg x
  all_goals
    rw [hn] at sp
    have SP := Lib.hid sp
    clear sp hn
    go_enter Tryz.func36, Tryz.ntmps36
    go_wp2_with (first
      | (go_at_call 48; refine SP.out.mono ?_; rintro e w1 ⟨rfl, hb⟩; have HB := Lib.hid hb; clear hb)
      | (go_at_call 49; refine (setU_c (z := w1.heap.size + 1) (IntAt.new (by simp)) 0 (by omega)).mono ?_; rintro e w2 ⟨rfl, hI, hz⟩; have HI := Lib.hid hI; have HZ := Lib.hid hz
         have hk : w2.heap[w1.heap.size]? = _ := (hz.block w1.heap.size (by simp; omega) (by omega)).trans (kb_alloc (kb_new (Below.refl _ _)))
         have k0 := kb_cell hk (i := 0) rfl
         have k2 := kb_cell hk (i := 2) rfl
         have HK2 := Lib.hid hk
         clear hI hz hk)
      | (go_at_call 50; refine (lsh_c HI.out HI.out 1074 (by omega) QS.out).mono ?_; rintro e w3 ⟨rfl, hI, hz⟩
         have hk : w3.heap[w1.heap.size]? = _ := (hz.block w1.heap.size (kb_lt HK2.out) (by omega)).trans HK2.out
         have k0' := kb_cell hk (i := 0) rfl
         have HI3 := Lib.hid hI; have HZ3 := Lib.hid (HZ.out.trans hz); clear hI hz hk)
      | (go_at_call 51; refine (neg_c HI3.out HI3.out (by rw [Int.natCast_zero, Int.zero_mul]; exact QS.out)).mono ?_; rintro e w4 ⟨rfl, hI, hz⟩
         have HI4 := Lib.hid hI; have HZ4 := Lib.hid (HZ3.out.trans hz); clear hI hz))
    go_ret
    first
      | exact ⟨_, rfl, by have := HB.out.size; omega, by have h2 := HI4.out; rw [Int.natCast_zero, Int.zero_mul, Int.neg_zero] at h2; rw [HV.out]; exact h2, HZ4.out.below ((HB.out.alloc HB.out.size _).alloc (by have := HB.out.size; simp; omega) _) (by have := HB.out.size; simp; omega) (by have := HB.out.size; omega)⟩
      | exact ⟨_, rfl, by have := HB.out.size; omega, by have h2 := HI3.out; rw [Int.natCast_zero, Int.zero_mul] at h2; rw [HV.out]; exact h2, HZ3.out.below ((HB.out.alloc HB.out.size _).alloc (by have := HB.out.size; simp; omega) _) (by have := HB.out.size; simp; omega) (by have := HB.out.size; omega)⟩
set_option maxHeartbeats 1600000 in
theorem whole_p (x : Nat) (hx : W64 x) (h0 : 0 < rg x) (h1 : rg x < 9218868437227405312) (w : World) (hT : Tab w) : Calls Tryz.prog 36 #[.float .f64 x] w (NPost (val x) w) := by
  have sp := split_yes x hx h0 h1 w hT
  have hv := val_eq' x
  clear hT hx h0 h1
  unfold SplitPost at sp
  cases hn : neg x
  all_goals
    rw [hn] at sp hv
    have SP := Lib.hid sp
    have HV := Lib.hid hv
    clear sp hn hv
    go_enter Tryz.func36, Tryz.ntmps36
    go_wp2_with (first
      | (go_at_call 48; refine SP.out.mono ?_; rintro e w1 ⟨fr, ex, rfl, hs, hfr, hex, hb⟩
         obtain ⟨E, hE⟩ : ∃ E : Nat, ex + 1074 = E := ⟨(ex + 1074).toNat, by have := hs.lo; omega⟩
         have hE2 : E ≤ 2097 := by omega
         have q1 : wrap64 (E : Int) = (E : Int) := by unfold wrap64; omega
         have q3 : IntKind.u64.wrap (E : Int) = (E : Int) := by rw [IntKind.wrap_u64]; omega
         have QS := Lib.hid (fr_bound hfr hE2)
         have QF : Hid (Sm ((fr : Int).natAbs : Int)) := Lib.hid (sm_nat (m := 53) (by rw [Int.natAbs_natCast]; exact hfr) (by omega))
         have HS := Lib.hid (whole_val hs hE)
         have HF := Lib.hid hfr
         have HB := Lib.hid hb
         have HE2 := Lib.hid hE2
         clear hs hfr hex hE2 hb)
      | (go_at_call 49; refine (setU_c (z := w1.heap.size + 1) (IntAt.new (by simp)) fr (by have := HF.out; omega)).mono ?_; rintro e w2 ⟨rfl, hI, hz⟩; have HI := Lib.hid hI; have HZ := Lib.hid hz
         have hk : w2.heap[w1.heap.size]? = _ := (hz.block w1.heap.size (by simp; omega) (by omega)).trans (kb_alloc (kb_new (Below.refl _ _)))
         have k0 := kb_cell hk (i := 0) rfl
         have k2 := kb_cell hk (i := 2) rfl
         have HK2 := Lib.hid hk
         clear hI hz hk)
      | (go_at_call 50; (with_reducible refine (lsh_c HI.out HI.out E (by have := HE2.out; omega) QF.out).mono ?_); rintro e w3 ⟨rfl, hI, hz⟩
         have hk : w3.heap[w1.heap.size]? = _ := (hz.block w1.heap.size (kb_lt HK2.out) (by omega)).trans HK2.out
         have k0' := kb_cell hk (i := 0) rfl
         have HI3 := Lib.hid hI; have HZ3 := Lib.hid (HZ.out.trans hz); clear hI hz hk)
      | (go_at_call 51; refine (neg_c HI3.out HI3.out QS.out).mono ?_; rintro e w4 ⟨rfl, hI, hz⟩
         have HI4 := Lib.hid hI; have HZ4 := Lib.hid (HZ3.out.trans hz); clear hI hz))
    go_ret
    first
      | exact ⟨_, rfl, by have := HB.out.size; omega, by have h2 := HI4.out; rw [HS.out] at h2; rw [HV.out]; exact h2, HZ4.out.below ((HB.out.alloc HB.out.size _).alloc (by have := HB.out.size; simp; omega) _) (by have := HB.out.size; simp; omega) (by have := HB.out.size; omega)⟩
      | exact ⟨_, rfl, by have := HB.out.size; omega, by have h2 := HI3.out; rw [HS.out] at h2; rw [HV.out]; exact h2, HZ3.out.below ((HB.out.alloc HB.out.size _).alloc (by have := HB.out.size; simp; omega) _) (by have := HB.out.size; simp; omega) (by have := HB.out.size; omega)⟩
theorem whole_c (x : Nat) (hx : W64 x) (h1 : rg x < 9218868437227405312) (w : World) (hT : Tab w) : Calls Tryz.prog 36 #[.float .f64 x] w (NPost (val x) w) := by
  rcases Nat.eq_zero_or_pos (rg x) with h0 | h0
  · exact whole_z x hx h0 w
  · exact whole_p x hx h0 h1 w hT
end Go.Proofs.YtaedkekjekbjmaaGreatDoor

/- Plain laws: Sturm's count of a chain of whole numbers: rows (t, B): t what stands on the diagonal less the place, B the square of what couples the row to the one ahead (0: none). No program. -/
namespace St
set_option maxRecDepth 10000

/-- What couples the first row to the one ahead of it. -/
def hd : List (Int × Int) → Int
  | [] => 0
  | (_, B) :: _ => B
/-- A row's number, of the state (a, b): the row ahead's pivot is a over -b. -/
def nx (t B : Int) (q : Int × Int) : Int := t * q.1 + B * q.2
def st (n : Int) (q : Int × Int) : Int × Int := if n ≤ 0 then (-n, q.1) else (n, -q.1)
def pos (n : Int) : Int := if n ≤ 0 then 1 else 0
def ng (n : Int) : Int := if n < 0 then 1 else 0
/-- How many are below. -/
def bel : List (Int × Int) → Int × Int → Int
  | [], _ => 0
  | (t, B) :: r, q =>
    if hd r = 0 then ng (nx t B (if B = 0 then (1, 0) else q)) + bel r (1, 0)
    else pos (nx t B (if B = 0 then (1, 0) else q)) + bel r (st (nx t B (if B = 0 then (1, 0) else q)) (if B = 0 then (1, 0) else q))
theorem bel_cons (t B : Int) (r : List (Int × Int)) (q : Int × Int) : bel ((t, B) :: r) q = if hd r = 0 then ng (nx t B (if B = 0 then (1, 0) else q)) + bel r (1, 0)
    else pos (nx t B (if B = 0 then (1, 0) else q)) + bel r (st (nx t B (if B = 0 then (1, 0) else q)) (if B = 0 then (1, 0) else q)) := rfl
/-- A place where nothing couples parts the chain. -/
theorem bel_any {l : List (Int × Int)} (h : hd l = 0) (q q' : Int × Int) : bel l q = bel l q' := by
  cases l with
  | nil => rfl
  | cons x r => obtain ⟨t, B⟩ := x; have h : B = 0 := h; subst h; simp only [bel_cons, if_pos]
theorem bel_app (b : List (Int × Int)) (hb : hd b = 0) : ∀ (a : List (Int × Int)) (q : Int × Int), bel (a ++ b) q = bel a q + bel b (1, 0) := by
  intro a
  induction a with
  | nil => intro q; rw [List.nil_append, bel_any hb q (1, 0)]; simp [bel]
  | cons x r ih =>
    obtain ⟨t, B⟩ := x
    intro q
    rw [List.cons_append, bel_cons, bel_cons]
    have e : hd (r ++ b) = hd r := by
      cases r with
      | nil => exact hb
      | cons y r => rfl
    rw [e, ih, ih]
    split <;> omega

/-- A state: a at least 0; b above 0 where a is 0. -/
structure Ok (q : Int × Int) : Prop where
  a : 0 ≤ q.1
  b : q.1 = 0 → 0 < q.2
theorem nx_pos {t B : Int} {q : Int × Int} (h : Ok q) (hB : 0 < B) (h0 : q.1 = 0) : 0 < nx t B q := by
  unfold nx
  rw [h0, Int.mul_zero, Int.zero_add]
  exact Int.mul_pos hB (h.b h0)
theorem Ok.st {t B : Int} {q : Int × Int} (h : Ok q) (hB : 0 < B ∨ 0 < q.1) : Ok (St.st (nx t B q) q) := by
  unfold St.st
  by_cases hn : nx t B q ≤ 0
  · rw [if_pos hn]
    refine ⟨by show 0 ≤ - nx t B q; omega, fun h0 => ?_⟩
    show 0 < q.1
    rcases hB with hB | hB
    · have := h.a
      rcases Int.lt_or_eq_of_le this with h1 | h1
      · exact h1
      · have := nx_pos (t := t) h hB h1.symm; omega
    · exact hB
  · rw [if_neg hn]
    exact ⟨by show 0 ≤ nx t B q; omega, fun h0 => by have h0 : nx t B q = 0 := h0; omega⟩
/-- The state further on: u(q) at least u(p). -/
def Ge (q p : Int × Int) : Prop := p.2 * q.1 ≤ q.2 * p.1
theorem cross {t t' B : Int} {q p : Int × Int} (hq : Ok q) (hp : Ok p) (ht : t' ≤ t) (hB : 0 ≤ B) (h : Ge q p) : nx t' B p * q.1 ≤ nx t B q * p.1 := by
  unfold nx
  have h1 : B * (p.2 * q.1) ≤ B * (q.2 * p.1) := Int.mul_le_mul_of_nonneg_left h hB
  have h2 : t' * (p.1 * q.1) ≤ t * (p.1 * q.1) := Int.mul_le_mul_of_nonneg_right ht (Int.mul_nonneg hp.a hq.a)
  have e1 : (t' * p.1 + B * p.2) * q.1 = t' * (p.1 * q.1) + B * (p.2 * q.1) := by rw [Int.add_mul, Int.mul_assoc, Int.mul_assoc]
  have e2 : (t * q.1 + B * q.2) * p.1 = t * (p.1 * q.1) + B * (q.2 * p.1) := by rw [Int.add_mul, Int.mul_assoc, Int.mul_assoc, Int.mul_comm q.1 p.1]
  rw [e1, e2]
  omega
/-- As the place rises (so t falls) the count does not fall. -/
def Low : List (Int × Int) → List (Int × Int) → Prop
  | [], [] => True
  | (t, B) :: r, (t', B') :: r' => t' ≤ t ∧ B = B' ∧ 0 ≤ B ∧ Low r r'
  | _, _ => False
theorem Low.hd {r r' : List (Int × Int)} (h : Low r r') : St.hd r = St.hd r' ∧ 0 ≤ St.hd r := by
  match r, r', h with
  | [], [], _ => exact ⟨rfl, Int.le_refl _⟩
  | (t, B) :: r, (t', B') :: r', h => exact ⟨h.2.1, h.2.2.1⟩
/-- None below 0, not more than there are. -/
theorem bel_range : ∀ (r : List (Int × Int)) (q : Int × Int), 0 ≤ bel r q ∧ bel r q ≤ r.length := by
  intro r
  induction r with
  | nil => intro q; simp [bel]
  | cons x r ih =>
    obtain ⟨t, B⟩ := x
    intro q
    rw [bel_cons, List.length_cons]
    generalize hq' : (if B = 0 then ((1, 0) : Int × Int) else q) = q'
    have h1 := ih (1, 0)
    have h2 := ih (st (nx t B q') q')
    unfold ng pos
    split <;> split <;> omega
/-! ## Turned end to end -/
/-- Between two states: how many are below, of a row t coupled to both. -/
def mid (u w : Int × Int) (A B C : Int) : Int := if u.1 = 0 ∧ w.1 = 0 then -1 else ng (A * u.1 * w.1 + B * u.2 * w.1 + C * w.2 * u.1)
/-- Rows coupled all: the state from below. -/
def bot : List (Int × Int) → Int × Int
  | [] => (1, 0)
  | (t, _) :: r => st (nx t (hd r) (bot r)) (bot r)
def All : List (Int × Int) → Prop := fun r => ∀ x ∈ r, 0 < x.2
theorem All.hd {x : Int × Int} {r : List (Int × Int)} (h : All (x :: r)) : 0 < St.hd (x :: r) := h x List.mem_cons_self
theorem All.tl {x : Int × Int} {r : List (Int × Int)} (h : All (x :: r)) : All r := fun y hy => h y (List.mem_cons_of_mem _ hy)
theorem part_at : ∀ r : List (Int × Int), (∀ x ∈ r, 0 ≤ x.2) → ∃ R z, r = R ++ z ∧ All R ∧ hd z = 0 := by
  intro r
  induction r with
  | nil => intro _; exact ⟨[], [], rfl, fun x hx => (by cases hx), rfl⟩
  | cons x r ih =>
    intro h
    obtain ⟨t, B⟩ := x
    by_cases h0 : B = 0
    · exact ⟨[], (t, B) :: r, rfl, fun x hx => (by cases hx), h0⟩
    · obtain ⟨R, z, rfl, h1, h2⟩ := ih (fun x hx => h x (List.mem_cons_of_mem _ hx))
      refine ⟨(t, B) :: R, z, rfl, fun x hx => ?_, h2⟩
      rcases List.mem_cons.1 hx with rfl | hx
      · have := h (t, B) List.mem_cons_self
        show 0 < B
        have : 0 ≤ B := this
        omega
      · exact h1 x hx
end St

/- Plain laws: the loops of sturm's part and below (and of the reference's) count as St.bel does. No program. -/
namespace St
/-- What a loop holds: the determinant ahead, the one now, the count, the sign. -/
structure S where
  ah : Int
  nw : Int
  c : Int
  s : Int
def sgn (n : Int) : Int := if n < 0 then -1 else if 0 < n then 1 else 0
def nxt (t o : Int) (q : S) : Int := t * q.nw - o * o * q.ah
/-- The sign that is taken. -/
def tk (last : Bool) (n s : Int) : Int := if sgn n = 0 ∧ last = false then -s else sgn n
def stp (last : Bool) (n : Int) (q : S) : S := if tk last n q.s = -q.s then ⟨q.nw, n, q.c + 1, -q.s⟩ else ⟨q.nw, n, q.c, q.s⟩
def run : List (Int × Int) → S → S
  | [], q => q
  | (t, o) :: r, q => run r (stp r.isEmpty (nxt t o q) q)
theorem run_cons (t o : Int) (r : List (Int × Int)) (q : S) : run ((t, o) :: r) q = run r (stp r.isEmpty (nxt t o q) q) := rfl
def sq (l : List (Int × Int)) : List (Int × Int) := l.map fun x => (x.1, x.2 * x.2)
theorem sq_pos {o : Int} (h : o ≠ 0) : 0 < o * o := by
  rcases Int.lt_or_gt_of_ne h with h | h
  · exact Int.mul_pos_of_neg_of_neg h h
  · exact Int.mul_pos h h
theorem hd_sq {r : List (Int × Int)} (h : ∀ x ∈ r, x.2 ≠ 0) : (hd (sq r) = 0) ↔ r.isEmpty = true := by
  cases r with
  | nil => simp [sq, hd]
  | cons x r =>
    have := sq_pos (h x List.mem_cons_self)
    have e : hd (sq (x :: r)) = x.2 * x.2 := rfl
    rw [e]
    exact ⟨fun h => absurd h (by omega), fun h => by simp at h⟩
theorem nx_S (t o : Int) (q : S) (h : q.s = 1 ∨ q.s = -1) : nx t (o * o) (q.s * q.nw, -(q.s * q.ah)) = q.s * nxt t o q := by
  unfold nx nxt
  simp only
  rcases h with h | h <;> rw [h] <;> simp only [Int.one_mul, Int.neg_mul, Int.mul_neg, Int.neg_neg] <;> omega
theorem stp_last {n : Int} {q : S} (h : q.s = 1 ∨ q.s = -1) : (stp true n q).c = q.c + ng (q.s * n) := by
  unfold stp tk sgn ng
  simp only [Bool.true_eq_false, and_false, if_false]
  rcases h with h | h <;> rw [h] <;> by_cases h1 : n < 0 <;> by_cases h2 : 0 < n <;> simp [h1, h2] <;> omega
theorem stp_mid {n : Int} {q : S} (h : q.s = 1 ∨ q.s = -1) : (stp false n q).c = q.c + pos (q.s * n) ∧ ((stp false n q).s = 1 ∨ (stp false n q).s = -1) ∧
    ((stp false n q).s * (stp false n q).nw, -((stp false n q).s * (stp false n q).ah)) = st (q.s * n) (q.s * q.nw, -(q.s * q.ah)) := by
  unfold stp tk sgn pos st
  rcases h with h | h <;> rw [h] <;> by_cases h1 : n < 0 <;> by_cases h2 : 0 < n <;> simp [h1, h2] <;> omega
theorem run_bel : ∀ (r : List (Int × Int)) (q : S), (q.s = 1 ∨ q.s = -1) → (∀ x ∈ r, x.2 ≠ 0) → (run r q).c = q.c + bel (sq r) (q.s * q.nw, -(q.s * q.ah)) := by
  intro r
  induction r with
  | nil => intro q _ _; simp [run, sq, bel]
  | cons x r ih =>
    obtain ⟨t, o⟩ := x
    intro q hs h
    have ho : o ≠ 0 := h (t, o) List.mem_cons_self
    have hr : ∀ x ∈ r, x.2 ≠ 0 := fun x hx => h x (List.mem_cons_of_mem _ hx)
    have e : sq ((t, o) :: r) = (t, o * o) :: sq r := rfl
    have hoo := sq_pos ho
    rw [run_cons, e, bel_cons, if_neg (show ¬ o * o = 0 by omega), nx_S t o q hs]
    by_cases hl : r.isEmpty = true
    · rw [hl, if_pos ((hd_sq hr).2 hl)]
      have : r = [] := List.isEmpty_iff.1 hl
      subst this
      show (stp true _ q).c = _
      rw [stp_last hs]; simp [sq, bel]
    · have hl2 : r.isEmpty = false := by simpa using hl
      obtain ⟨h1, h2, h3⟩ := stp_mid (n := nxt t o q) hs
      rw [hl2, if_neg (fun h => hl ((hd_sq hr).1 h)), ih _ h2 hr, h1, h3]
      omega
def S0 : S := ⟨1, 1, 0, 1⟩
/-- A part's count. -/
theorem part_bel (t : Int) (r : List (Int × Int)) (h : ∀ x ∈ r, x.2 ≠ 0) : (run ((t, 0) :: r) S0).c = bel (sq ((t, 0) :: r)) (1, 0) := by
  have e : sq ((t, 0) :: r) = (t, 0) :: sq r := rfl
  have hn : nxt t 0 S0 = t := by unfold nxt S0; simp
  have hx : nx t 0 (1, 0) = t := by unfold nx; simp
  rw [run_cons, e, bel_cons, if_pos rfl, hn, hx]
  by_cases hl : r.isEmpty = true
  · rw [hl, if_pos ((hd_sq h).2 hl)]
    have : r = [] := List.isEmpty_iff.1 hl
    subst this
    show (stp true t S0).c = _
    rw [stp_last (.inl rfl)]; simp [sq, bel, S0]
  · have hl2 : r.isEmpty = false := by simpa using hl
    obtain ⟨h1, h2, h3⟩ := stp_mid (n := t) (q := S0) (.inl rfl)
    rw [hl2, if_neg (fun h' => hl ((hd_sq h).1 h')), run_bel r _ h2 h, h1, h3]
    unfold S0
    simp only [Int.one_mul]
    have e2 : st t (1, -1) = st t (1, 0) := by unfold st; rfl
    rw [e2]; omega

/-- A chain's rows: the diagonal less x, what couples each to the one ahead (p: the first). -/
def rw_ (x : Int) : Int → List Int → List Int → List (Int × Int)
  | _, [], _ => []
  | p, a :: d, o => (a - x, p) :: rw_ x (o.headD 0) d o.tail
theorem rw_cons (x p a : Int) (d o : List Int) : rw_ x p (a :: d) o = (a - x, p) :: rw_ x (o.headD 0) d o.tail := rfl
theorem rw_len (x : Int) : ∀ (d : List Int) (p : Int) (o : List Int), (rw_ x p d o).length = d.length := by
  intro d
  induction d with
  | nil => intro p o; rfl
  | cons a d ih => intro p o; rw [rw_cons, List.length_cons, ih, List.length_cons]
theorem rw_app (x z : Int) (d2 o2 : List Int) : ∀ (o1 d1 : List Int) (p : Int), d1.length = o1.length + 1 → rw_ x p (d1 ++ d2) (o1 ++ z :: o2) = rw_ x p d1 o1 ++ rw_ x z d2 o2 := by
  intro o1
  induction o1 with
  | nil =>
    intro d1 p h
    match d1, h with
    | [a], _ => simp [rw_]
  | cons y o1 ih =>
    intro d1 p h
    match d1, h with
    | a :: d1, h =>
      have h : d1.length = o1.length + 1 := by simpa using h
      simp only [List.cons_append, rw_cons, List.headD_cons, List.tail_cons, ih d1 y h]
theorem rw_ne (x : Int) : ∀ (d o : List Int) (p : Int), d.length = o.length + 1 → (∀ y ∈ o, y ≠ 0) → ∃ t r, rw_ x p d o = (t, p) :: r ∧ ∀ z ∈ r, z.2 ≠ 0 := by
  intro d
  induction d with
  | nil => intro o p h; simp at h
  | cons a d ih =>
    intro o p h ho
    refine ⟨a - x, rw_ x (o.headD 0) d o.tail, rfl, ?_⟩
    cases o with
    | nil =>
      have : d = [] := List.eq_nil_of_length_eq_zero (by simpa using h)
      subst this
      intro z hz; cases hz
    | cons y o =>
      obtain ⟨t, r, e, hr⟩ := ih o y (by simpa using h) (fun z hz => ho z (List.mem_cons_of_mem _ hz))
      simp only [List.headD_cons, List.tail_cons, e]
      intro z hz
      rcases List.mem_cons.1 hz with rfl | hz
      · exact ho y List.mem_cons_self
      · exact hr z hz
/-- How many of a chain are below x. -/
def cnt (x : Int) (d o : List Int) : Int := bel (sq (rw_ x 0 d o)) (1, 0)
/-- A part's count, as the loop goes. -/
def prt (x : Int) (d o : List Int) : Int := (run (rw_ x 0 d o) S0).c
theorem prt_cnt (x : Int) (d o : List Int) (h : d.length = o.length + 1) (ho : ∀ y ∈ o, y ≠ 0) : prt x d o = cnt x d o := by
  obtain ⟨t, r, e, hr⟩ := rw_ne x d o 0 h ho
  unfold prt cnt
  rw [e, part_bel t r hr]
theorem cnt_app (x : Int) (d1 d2 o1 o2 : List Int) (h : d1.length = o1.length + 1) : cnt x (d1 ++ d2) (o1 ++ 0 :: o2) = cnt x d1 o1 + cnt x d2 o2 := by
  unfold cnt
  rw [rw_app x 0 d2 o2 o1 d1 0 h]
  have e : sq (rw_ x 0 d1 o1 ++ rw_ x 0 d2 o2) = sq (rw_ x 0 d1 o1) ++ sq (rw_ x 0 d2 o2) := List.map_append
  rw [e, bel_app]
  cases d2 with
  | nil => rfl
  | cons a d => rfl
theorem cnt_range (x : Int) (d o : List Int) : 0 ≤ cnt x d o ∧ cnt x d o ≤ d.length := by
  have := bel_range (sq (rw_ x 0 d o)) (1, 0)
  rw [show (sq (rw_ x 0 d o)).length = d.length by unfold sq; rw [List.length_map, rw_len]] at this
  exact this
theorem hd_rw0 (x : Int) (d o : List Int) : hd (sq (rw_ x 0 d o)) = 0 := by cases d <;> rfl
/-- No couplings: how many of the diagonal are below. -/
theorem cnt_zeros (x : Int) : ∀ (d o : List Int), (∀ y ∈ o, y = 0) → cnt x d o = (d.filter fun a => decide (a < x)).length := by
  intro d
  induction d with
  | nil => intro o _; rfl
  | cons a d ih =>
    intro o ho
    have e : cnt x (a :: d) o = ng (a - x) + cnt x d o.tail := by
      have h0 : o.headD 0 = 0 := by
        cases o with
        | nil => rfl
        | cons y o => exact ho y List.mem_cons_self
      show bel ((a - x, 0 * 0) :: sq (rw_ x (o.headD 0) d o.tail)) (1, 0) = _
      rw [h0, bel_cons, if_pos (hd_rw0 x d o.tail)]
      unfold nx cnt
      simp
    rw [e, ih o.tail (fun y hy => ho y (List.mem_of_mem_tail hy)), List.filter_cons]
    unfold ng
    by_cases h : a < x
    · rw [if_pos (by omega), if_pos (by simpa using h), List.length_cons]; omega
    · rw [if_neg (by omega), if_neg (by simpa using h)]; omega
theorem rw_drop (x : Int) : ∀ (k : Nat) (d : List Int) (p : Int) (o : List Int) (hk : k < d.length), d.length = o.length + 1 →
    ∃ y, (k = 0 → y = p) ∧ (0 < k → ∃ h' : k - 1 < o.length, y = o[k - 1]) ∧ (rw_ x p d o).drop k = (d[k] - x, y) :: (rw_ x p d o).drop (k + 1) := by
  intro k
  induction k with
  | zero =>
    intro d p o hk hl
    cases d with
    | nil => simp at hk
    | cons a d => exact ⟨p, fun _ => rfl, fun h => absurd h (by decide), rfl⟩
  | succ k ih =>
    intro d p o hk hl
    cases d with
    | nil => simp at hk
    | cons a d =>
      cases o with
      | nil =>
        have : d = [] := List.eq_nil_of_length_eq_zero (by simpa using hl)
        subst this
        simp at hk
      | cons z o =>
        obtain ⟨y, h1, h2, h3⟩ := ih d z o (by simpa using hk) (by simpa using hl)
        refine ⟨y, fun h => (by cases h), fun _ => ?_, ?_⟩
        · cases k with
          | zero => exact ⟨by simp, h1 rfl⟩
          | succ k =>
            obtain ⟨h4, h5⟩ := h2 (Nat.succ_pos _)
            exact ⟨by simp at h4 ⊢; omega, by simpa using h5⟩
        · rw [rw_cons, List.headD_cons, List.tail_cons, List.drop_succ_cons, List.drop_succ_cons, h3]; simp
end St

/- Sizes; numbers that live; lists of floats that are read. -/
namespace Go.Proofs.YtaedkekjekbjmaaGreatDoor
open Go Go.RowKit Nv GFl
open Go.Proofs.YtaedkekjekbjmaaGreatDoorW.PrintWords (Kd)
set_option maxRecDepth 100000

/-- A size below 2^m. -/
def Bd (m : Nat) (v : Int) : Prop := v.natAbs < 2 ^ m
theorem two_pow_le {m n : Nat} (h : m ≤ n) : 2 ^ m ≤ 2 ^ n := Nat.pow_le_pow_right (by decide) h
theorem Bd.le {m n : Nat} {v : Int} (h : Bd m v) (k : m ≤ n) : Bd n v := Nat.lt_of_lt_of_le h (two_pow_le k)
theorem Bd.sm {m : Nat} {v : Int} (h : Bd m v) (hm : m ≤ 32 * 1000000) : Sm (v.natAbs : Int) := sm_nat h hm
theorem Bd.sub {m : Nat} {a b : Int} (h : Bd m a) (k : Bd m b) : Bd (m + 1) (a - b) := by
  unfold Bd at *
  rw [Nat.pow_succ]
  omega
theorem Bd.add {m : Nat} {a b : Int} (h : Bd m a) (k : Bd m b) : Bd (m + 1) (a + b) := by
  unfold Bd at *
  rw [Nat.pow_succ]
  omega
theorem Bd.neg {m : Nat} {a : Int} (h : Bd m a) : Bd m (-a) := by unfold Bd at *; rwa [Int.natAbs_neg]
theorem Bd.mul {m n : Nat} {a b : Int} (h : Bd m a) (k : Bd n b) : Bd (m + n) (a * b) := by
  unfold Bd at *
  rw [Int.natAbs_mul, Nat.pow_add]
  exact Nat.mul_lt_mul'' h k
theorem Bd.one : Bd 1 1 := by unfold Bd; decide

/-- These numbers are there. -/
def Live (w : World) (L : List (Nat × Int)) : Prop := ∀ p ∈ L, IntAt w p.1 p.2
theorem Live.nil (w : World) : Live w [] := fun _ h => by cases h
theorem Live.cons {w : World} {b : Nat} {v : Int} {L : List (Nat × Int)} (h : IntAt w b v) (k : Live w L) : Live w ((b, v) :: L) := fun p hp => by
  rcases List.mem_cons.1 hp with rfl | hp
  · exact h
  · exact k p hp
theorem Live.below {w w' : World} {L : List (Nat × Int)} (h : Live w L) (hb : Below w.heap.size w w') : Live w' L := fun p hp => (h p hp).below hb
theorem Live.hd {w : World} {b : Nat} {v : Int} {L : List (Nat × Int)} (h : Live w ((b, v) :: L)) : IntAt w b v := h (b, v) List.mem_cons_self
theorem Live.tl {w : World} {x : Nat × Int} {L : List (Nat × Int)} (h : Live w (x :: L)) : Live w L := fun p hp => h p (List.mem_cons_of_mem _ hp)
theorem Live.bz {w w' : World} {z : Nat} {u : Int} {L : List (Nat × Int)} (h : Live w L) (hz : IntAt w z u) (hn : ∀ p ∈ L, p.1 ≠ z) (hb : Bz z w w') : Live w' L := fun p hp => (h p hp).keep hz (hn p hp) hb
theorem Live.lt {w : World} {L : List (Nat × Int)} (h : Live w L) : ∀ p ∈ L, p.1 < w.heap.size := fun p hp => (h p hp).lt

/-- A slice of floats. -/
def kF : Kd Nat := Kd.scalar (Value.float .f64) (fun _ => rfl)
def Fl (w : World) (A : Option Addr) (l : List Nat) : Prop := Kd.C kF w A l.length l
theorem Fl.below {w w' : World} {A : Option Addr} {l : List Nat} (h : Fl w A l) (hb : Below w.heap.size w w') : Fl w' A l := Kd.C_below h hb
theorem Fl.at {w : World} {A : Option Addr} {l : List Nat} (h : Fl w A l) {i : Nat} (hi : i < l.length) : ∃ ad, A = some ad ∧ w.cell? (ad.add i) = some (.float .f64 l[i]) := by
  obtain ⟨ad, e, hc⟩ := h.2.2 (by omega)
  obtain ⟨cs, _, hK, hcs⟩ := hc i _ (List.getElem?_eq_getElem hi)
  have hK : cs = [.float .f64 l[i]] := hK
  subst hK
  have := hcs 0 _ rfl
  rw [show kF.sz = 1 from rfl] at this
  exact ⟨ad, e, by simpa using this⟩
theorem Fl.mk {w : World} {A : Option Addr} {l : List Nat} (hl : l.length ≤ 9223372036854775807) (h : 0 < l.length → ∃ ad, A = some ad ∧ ∀ i (hi : i < l.length), w.cell? (ad.add i) = some (.float .f64 l[i])) : Fl w A l := by
  refine ⟨rfl, hl, fun h0 => ?_⟩
  obtain ⟨ad, e, hc⟩ := h h0
  refine ⟨ad, e, fun j p hp => ⟨[.float .f64 p], rfl, rfl, fun i u hu => ?_⟩⟩
  have hj := (List.getElem?_eq_some_iff.1 hp).1
  have hv := (List.getElem?_eq_some_iff.1 hp).2
  have hi : i = 0 := by have := (List.getElem?_eq_some_iff.1 hu).1; simpa using this
  subst hi
  have : u = .float .f64 p := by simpa using hu.symm
  rw [this, show kF.sz = 1 from rfl, Nat.mul_one, Nat.add_zero, ← hv]
  exact hc j hj
/-- A float of a chain: not too great. -/
structure Cf (x : Nat) : Prop where
  w : W64 x
  r : rg x ≤ 6858982232485265408
theorem Cf.fin {x : Nat} (h : Cf x) : rg x < 9218868437227405312 := by have := h.r; omega
theorem mg500 : mg B52 6858982232485265408 = p2 1574 := by
  have : (6858982232485265408 : Nat) = 1523 * B52 + 0 := by decide
  rw [this, mg_B 1523 0 (by decide) (by decide)]
  have e : B52 + 0 = p2 52 := by rw [p2_def]
  rw [e, ← p2_add]
theorem lt_pow {a m : Nat} (h : a ≤ p2 m) : a < 2 ^ (m + 1) := by
  rw [p2_def] at h
  exact Nat.lt_of_le_of_lt h (Nat.pow_lt_pow_right (by decide) (Nat.lt_succ_self m))
theorem bd_of {v : Int} {a m n : Nat} (e : v.natAbs = a) (h : a ≤ p2 m) (hn : m + 1 = n) : Bd n v := by
  subst hn
  unfold Bd
  rw [e]
  exact lt_pow h
theorem Cf.val {x : Nat} (h : Cf x) : Bd 1575 (val x) := by
  have h1 := mg_mono (B := B52) B52_pos h.r
  rw [mg500] at h1
  have e : (GFl.val x).natAbs = mg B52 (rg x) := by rw [val_eq']; show (if _ then -((mg B52 (rg x) : Nat) : Int) else ((mg B52 (rg x) : Nat) : Int)).natAbs = _; generalize mg B52 (rg x) = m; split <;> omega
  exact bd_of e h1 rfl
end Go.Proofs.YtaedkekjekbjmaaGreatDoor

/- sturm.part. -/
namespace Go.Proofs.YtaedkekjekbjmaaGreatDoor
open Go Go.RowKit Nv GFl
open Go.Proofs.YtaedkekjekbjmaaGreatDoorW.PrintWords (Kd)
set_option maxRecDepth 100000

/-- What holds at the head of part's loop. -/
structure PI (W w : World) (d o : List Nat) (xb : Nat) (X : Int) (k : Nat) (q : St.S) (ba bn : Nat) : Prop where
  live : Live w [(ba, q.ah), (bn, q.nw), (xb, X)]
  na : W.heap.size ≤ ba
  nn : W.heap.size ≤ bn
  ne : ba ≠ bn
  nx : xb < W.heap.size
  below : Below W.heap.size W w
  s : q.s = 1 ∨ q.s = -1
  c0 : 0 ≤ q.c
  c1 : q.c ≤ k
  bn : Bd (1600 * k + 1) q.nw
  ba : 1 ≤ k → Bd (1600 * (k - 1) + 1) q.ah
  run : St.run ((St.rw_ X 0 (d.map val) (o.map val)).drop k) q = St.run (St.rw_ X 0 (d.map val) (o.map val)) St.S0
theorem GPost.live {z : Nat} {v u : Int} {w w' : World} {e : Ending} {L : List (Nat × Int)} (h : GPost z v w e w') (hz : IntAt w z u) (hL : Live w L) (hn : ∀ p ∈ L, p.1 ≠ z) : Live w' ((z, v) :: L) :=
  Live.cons h.2.1 (hL.bz hz hn h.2.2)
theorem stp_ah (last : Bool) (n : Int) (q : St.S) : (St.stp last n q).ah = q.nw ∧ (St.stp last n q).nw = n := by unfold St.stp; split <;> exact ⟨rfl, rfl⟩
theorem stp_cs (last : Bool) (n : Int) (q : St.S) (h : q.s = 1 ∨ q.s = -1) : ((St.stp last n q).s = 1 ∨ (St.stp last n q).s = -1) ∧ ((St.stp last n q).c = q.c ∨ (St.stp last n q).c = q.c + 1) := by
  unfold St.stp
  split
  · exact ⟨by show -q.s = 1 ∨ -q.s = -1; omega, .inr rfl⟩
  · exact ⟨h, .inl rfl⟩
theorem PI.next {W wr w5 : World} {d o : List Nat} {xb : Nat} {X : Int} {k : Nat} {q : St.S} {ba bn bx : Nat} (h : PI W wr d o xb X k q ba bn) (hlt : k < d.length) (cd : ∀ x ∈ d, Cf x) (co : ∀ x ∈ o, Cf x) (hl : d.length = o.length + 1) {y : Int}
    (hy0 : k = 0 → y = 0) (hy1 : 0 < k → ∃ h' : k - 1 < (o.map val).length, y = (o.map val)[k - 1]) (hrow : (St.rw_ X 0 (d.map val) (o.map val)).drop k = (val d[k] - X, y) :: (St.rw_ X 0 (d.map val) (o.map val)).drop (k + 1)) (bX : Bd 1577 X)
    (hL : Live w5 [(bx, St.nxt (val d[k] - X) y q), (bn, q.nw), (xb, X)]) (hbx : wr.heap.size ≤ bx) (hB : Below W.heap.size W w5) :
    PI W w5 d o xb X (k + 1) (St.stp (decide (k + 1 = d.length)) (St.nxt (val d[k] - X) y q) q) bn bx := by
  obtain ⟨e1, e2⟩ := stp_ah (decide (k + 1 = d.length)) (St.nxt (val d[k] - X) y q) q
  obtain ⟨s1, s2⟩ := stp_cs (decide (k + 1 = d.length)) (St.nxt (val d[k] - X) y q) q h.s
  have hbn : bn < wr.heap.size := h.live.lt (bn, q.nw) (by simp)
  have hsz := h.below.size
  refine ⟨?_, h.nn, by omega, by omega, h.nx, hB, s1, ?_, ?_, ?_, fun _ => ?_, ?_⟩
  · rw [e1, e2]
    exact Live.cons hL.tl.hd (Live.cons hL.hd (Live.cons hL.tl.tl.hd (Live.nil _)))
  · have := h.c0; omega
  · have := h.c1; omega
  · rw [e2]
    unfold St.nxt
    have b1 : Bd (1578 + (1600 * k + 1)) ((val d[k] - X) * q.nw) := Bd.mul (Bd.sub ((cd _ (List.getElem_mem hlt)).val.le (by omega)) bX) h.bn
    refine (Bd.sub (b1.le (show 1578 + (1600 * k + 1) ≤ 1600 * k + 1580 by omega)) ?_).le (show 1600 * k + 1580 + 1 ≤ 1600 * (k + 1) + 1 by omega)
    rcases Nat.eq_zero_or_pos k with h0 | h0
    · rw [hy0 h0, Int.mul_zero, Int.zero_mul]
      unfold Bd
      exact Nat.two_pow_pos _
    · obtain ⟨h', hy⟩ := hy1 h0
      have by_ : Bd 1575 y := by
        rw [hy, List.getElem_map]
        exact (co _ (List.getElem_mem _)).val
      exact (Bd.mul (Bd.mul by_ by_) (h.ba h0)).le (by omega)
  · rw [e1]
    exact h.bn.le (by omega)
  · have hr := h.run
    rw [hrow, St.run_cons] at hr
    have e : ((St.rw_ X 0 (d.map val) (o.map val)).drop (k + 1)).isEmpty = decide (k + 1 = d.length) := by
      rw [Bool.eq_iff_iff, List.isEmpty_iff, List.drop_eq_nil_iff, St.rw_len, List.length_map]
      simp; omega
    rw [e] at hr
    exact hr
theorem stp_val {last : Bool} {n : Int} {q : St.S} {s sN : Int} (h1 : sgnI n = sN) (h2 : q.s = s) : (St.stp last n q).c = q.c + (if (if sN = 0 ∧ last = false then -s else sN) = -s then 1 else 0) ∧ (St.stp last n q).s = (if (if sN = 0 ∧ last = false then -s else sN) = -s then -s else s) := by
  have h3 : St.sgn n = sN := h1
  unfold St.stp St.tk
  rw [h2, h3]
  generalize (if sN = 0 ∧ last = false then -s else sN) = t
  split <;> simp [*]
structure LV (W w : World) (L : List (Nat × Int)) : Prop where
  live : Live w L
  below : Below W.heap.size W w
theorem LV.new {W w w' : World} {L : List (Nat × Int)} {b : Nat} {v : Int} (h : LV W w L) (hi : IntAt w' b v) (hb : Below w.heap.size w w') : LV W w' ((b, v) :: L) := ⟨Live.cons hi (h.live.below hb), bl_then h.below hb⟩
theorem LV.put {W w w' : World} {L : List (Nat × Int)} {z : Nat} {u v : Int} {e : Ending} (h : LV W w ((z, u) :: L)) (hg : GPost z v w e w') (hn : ∀ p ∈ L, p.1 ≠ z) (hz : W.heap.size ≤ z) : LV W w' ((z, v) :: L) :=
  ⟨hg.live h.live.hd h.live.tl hn, hg.2.2.below h.below h.below.size hz⟩
set_option maxHeartbeats 4000000 in
theorem part_c (A B : Option Addr) (cA cB : Nat) (d o : List Nat) (xb : Nat) (X : Int) (W : World) (hd : Fl W A d) (ho : Fl W B o) (cd : ∀ x ∈ d, Cf x) (co : ∀ x ∈ o, Cf x) (hl : d.length = o.length + 1) (hn : d.length ≤ 64) (hx : IntAt W xb X) (bx : Bd 1577 X) (hT : Tab W) :
    Calls Tryz.prog 37 #[.slice A d.length cA, .slice B o.length cB, pt xb] W fun e w' => e = .returned (.int .i64 (St.prt X (d.map val) (o.map val))) ∧ Below W.heap.size W w' := by
  have HD := Lib.hid hd
  have HO := Lib.hid ho
  have CD := Lib.hid cd
  have CO := Lib.hid co
  have HL := Lib.hid hl
  have HX := Lib.hid hx
  have BX := Lib.hid bx
  have HT := Lib.hid hT
  clear hd ho cd co hl hx bx hT
  go_enter Tryz.func37, Tryz.ntmps37
  go_wp2_with fail
  refine (newInt_c 1 (by decide) (by decide) _).mono ?_
  rintro e w1 ⟨b1, rfl, n1, i1, h1⟩
  have N1 := Lib.hid n1
  have I1 := Lib.hid i1
  have H1 := Lib.hid h1
  clear n1 i1 h1
  go_wp2_with fail
  refine (newInt_c 1 (by decide) (by decide) _).mono ?_
  rintro e w2 ⟨b2, rfl, n2, i2, h2⟩
  have P0 : Hid (PI W w2 d o xb X 0 St.S0 b1 b2) := Lib.hid ⟨Live.cons (I1.out.below h2) (Live.cons i2 (Live.cons ((HX.out.below H1.out).below h2) (Live.nil _))), N1.out, Nat.le_trans H1.out.size n2, by have := I1.out.lt; omega, HX.out.lt, bl_then H1.out h2, .inl rfl, by decide, by decide, Bd.one.le (by omega), fun h => absurd h (by decide), by rw [List.drop_zero]⟩
  clear n2 i2 h2 N1 I1 H1
  go_wp2
  go_loopw [7, 8, 9, 10, 20] (fun v7 v8 v9 v10 v20 wr => ∃ (k : Nat) (c s : Int) (ba bn : Nat), v7 = pt ba ∧ v8 = pt bn ∧ v9 = .int .i64 c ∧ v10 = .int .i64 s ∧ v20 = .int .i64 k ∧ k ≤ d.length ∧ Hid (∃ q : St.S, q.c = c ∧ q.s = s ∧ PI W wr d o xb X k q ba bn)) (fun _ _ _ _ v _ => d.length - (intOf v).toNat)
  case atStart => exact ⟨0, 0, 1, b1, b2, rfl, rfl, rfl, rfl, rfl, Nat.zero_le _, Lib.hid ⟨St.S0, rfl, rfl, P0.out⟩⟩
  case round =>
    obtain ⟨k, c, s, ba, bn, rfl, rfl, rfl, rfl, rfl, hk, hq⟩ := hrel
    clear P0
    by_cases hlt : k < d.length
    · have l1 : decide (k < d.length) = true := decide_eq_true hlt
      have cx := CD.out _ (List.getElem_mem hlt)
      obtain ⟨ad, hA, hc⟩ := HD.out.at hlt
      subst hA
      obtain ⟨q, hq1, hq2, hq3⟩ := hq.out
      have hcell : wr.cell? (ad.add k) = some (.float .f64 d[k]) := (hq3.below.cell (World.block_lt_of_cell? W _ hc)).trans hc
      obtain ⟨y, hy0, hy1, hrow⟩ := St.rw_drop X k (d.map val) 0 (o.map val) (by simpa using hlt) (by simpa using HL.out)
      rw [List.getElem_map] at hrow
      have HROW := Lib.hid hrow
      have HY0 := Lib.hid hy0
      have HY1 := Lib.hid hy1
      have Q1 := Lib.hid hq1
      have Q2 := Lib.hid hq2
      have Q3 := Lib.hid hq3
      have CX := Lib.hid cx
      clear hq hq1 hq2 hq3 hc hrow hy0 hy1 cx
      go_wp2_with fail
      (with_reducible refine (whole_c _ CX.out.w CX.out.fin _ (HT.out.below Q3.out.below)).mono ?_)
      rintro e w3 ⟨bx, rfl, n3, i3, h3⟩
      have V3 : Hid (LV W w3 [(bx, val d[k]), (ba, q.ah), (bn, q.nw), (xb, X)]) := Lib.hid ⟨Live.cons i3 (Q3.out.live.below h3), bl_then Q3.out.below h3⟩
      have hne : ∀ p ∈ [(ba, q.ah), (bn, q.nw), (xb, X)], p.1 ≠ bx := fun p hp => by have := Q3.out.live.lt p hp; omega
      have hbx : W.heap.size ≤ bx := Nat.le_trans Q3.out.below.size n3
      have NE := Lib.hid hne
      have N3 := Lib.hid n3
      have HBX := Lib.hid hbx
      have BT : Hid (Bd 1578 (val d[k] - X)) := Lib.hid (Bd.sub (CX.out.val.le (by omega)) BX.out)
      clear n3 i3 h3 hne hbx
      go_wp2_with fail
      (with_reducible refine (sub_c V3.out.live.hd V3.out.live.hd V3.out.live.tl.tl.tl.hd (CX.out.val.sm (by omega)) (BX.out.sm (by omega))).mono ?_)
      rintro e w4 hg
      obtain rfl := hg.1
      have V4 := Lib.hid (V3.out.put hg NE.out HBX.out)
      clear hg V3
      go_wp2_with fail
      (with_reducible refine (mul_c V4.out.live.hd V4.out.live.hd V4.out.live.tl.tl.hd (BT.out.sm (by omega)) (Q3.out.bn.sm (by omega))).mono ?_)
      rintro e w5 hg
      obtain rfl := hg.1
      have V5 := Lib.hid (V4.out.put hg NE.out HBX.out)
      clear hg V4
      rcases Nat.eq_zero_or_pos k with h0 | h0
      · have l3 : decide (0 < k) = false := decide_eq_false (by omega)
        have VX : Hid (LV W w5 [(bx, St.nxt (val d[k] - X) y q), (ba, q.ah), (bn, q.nw), (xb, X)]) := by
          have hy : y = 0 := HY0.out h0
          have e : St.nxt (val d[k] - X) y q = (val d[k] - X) * q.nw := by unfold St.nxt; rw [hy]; simp
          rw [e]; exact V5
        clear V5 h0
        have hS : s = 1 ∨ s = -1 := by have := Q3.out.s; rw [Q2.out] at this; exact this
        have hN : sgnI (St.nxt (val d[k] - X) y q) = -1 ∨ sgnI (St.nxt (val d[k] - X) y q) = 0 ∨ sgnI (St.nxt (val d[k] - X) y q) = 1 := by unfold sgnI; (repeat' split) <;> simp
        obtain ⟨sN, hsN⟩ : ∃ sN, sgnI (St.nxt (val d[k] - X) y q) = sN := ⟨_, rfl⟩
        have sc := isign_c VX.out.live.hd
        rw [hsN] at sc hN
        have SC := Lib.hid sc
        have sv := stp_val (last := decide (k + 1 = d.length)) hsN Q2.out
        have cq := Q1.out
        rw [cq] at sv
        have c0 : 0 ≤ c := by have := Q3.out.c0; rw [cq] at this; exact this
        have c1 : c ≤ 64 := by have := Q3.out.c1; rw [cq] at this; omega
        have NX := Lib.hid (Q3.out.next hlt CD.out CO.out HL.out HY0.out HY1.out HROW.out BX.out (Live.cons VX.out.live.hd (Live.cons VX.out.live.tl.tl.hd (Live.cons VX.out.live.tl.tl.tl.hd (Live.nil _)))) N3.out VX.out.below)
        have SV := Lib.hid sv
        clear sc hsN sv cq
        by_cases hlast : k + 1 = d.length
        all_goals
          have HLA := Lib.hid hlast
          rcases hS with rfl | rfl <;> rcases hN with rfl | rfl | rfl
        all_goals
          have sv := SV.out
          have nx := NX.out
          first
            | rw [decide_eq_true HLA.out] at sv nx
            | rw [decide_eq_false HLA.out] at sv nx
          simp at sv
          have SV2 := Lib.hid sv
          have NX2 := Lib.hid nx
          first
            | have l2 : decide ((k : Int) < (d.length : Int) - 1) = false := decide_eq_false (by have := HLA.out; omega)
            | have l2 : decide ((k : Int) < (d.length : Int) - 1) = true := decide_eq_true (by have := HLA.out; omega)
          clear sv SV hlast nx NX
          go_wp2_with ((with_reducible refine (SC.out).mono ?_); rintro e w9 ⟨rfl, rfl⟩)
          go_roundw
          case rel => exact ⟨k + 1, _, _, bn, bx, rfl, rfl, rfl, rfl, by go_num, by omega, Lib.hid ⟨_, SV2.out.1, SV2.out.2, NX2.out⟩⟩
          case measure => simp [intOf]; omega
      · obtain ⟨j, rfl⟩ : ∃ j, k = j + 1 := ⟨k - 1, by omega⟩
        have l3 : decide (0 < j + 1) = true := decide_eq_true (by omega)
        obtain ⟨hj, hy⟩ := HY1.out (by omega)
        have hjo : j < o.length := by simpa using hj
        have hyo : y = val o[j] := by rw [hy, List.getElem_map]; rfl
        have co1 := CO.out _ (List.getElem_mem hjo)
        obtain ⟨bd, hB, hc⟩ := HO.out.at hjo
        subst hB
        have hcell2 : w5.cell? (bd.add j) = some (.float .f64 o[j]) := (V5.out.below.cell (World.block_lt_of_cell? W _ hc)).trans hc
        have hol : j < o.length := hjo
        have CO1 := Lib.hid co1
        have HYO := Lib.hid hyo
        clear hy hyo hj co1 hc
        go_wp2_with fail
        (with_reducible refine (whole_c _ CO1.out.w CO1.out.fin _ (HT.out.below V5.out.below)).mono ?_)
        rintro e w6 ⟨bo, rfl, n6, i6, h6⟩
        have V6 := Lib.hid (V5.out.new i6 h6)
        have hne2 : ∀ p ∈ [(bx, (val d[j + 1] - X) * q.nw), (ba, q.ah), (bn, q.nw), (xb, X)], p.1 ≠ bo := fun p hp => by have := V5.out.live.lt p hp; omega
        have NE2 := Lib.hid hne2
        have HBO := Lib.hid (Nat.le_trans V5.out.below.size n6)
        have BO : Hid (Bd 1575 (val o[j])) := Lib.hid CO1.out.val
        clear n6 i6 h6 hne2
        go_wp2_with fail
        (with_reducible refine (mul_c V6.out.live.hd V6.out.live.hd V6.out.live.hd (BO.out.sm (by omega)) (BO.out.sm (by omega))).mono ?_)
        rintro e w7 hg
        obtain rfl := hg.1
        have V7 := Lib.hid (V6.out.put hg NE2.out HBO.out)
        clear hg V6
        go_wp2_with fail
        (with_reducible refine (mul_c V7.out.live.hd V7.out.live.hd V7.out.live.tl.tl.hd ((Bd.mul BO.out BO.out).sm (by omega)) ((Q3.out.ba (by omega)).sm (by omega))).mono ?_)
        rintro e w8 hg
        obtain rfl := hg.1
        have V8 := Lib.hid (V7.out.put hg NE2.out HBO.out)
        clear hg V7
        go_wp2_with fail
        have V8' : Hid (LV W w8 [(bx, (val d[j + 1] - X) * q.nw), (bo, val o[j] * val o[j] * q.ah), (ba, q.ah), (bn, q.nw), (xb, X)]) := Lib.hid ⟨Live.cons V8.out.live.tl.hd (Live.cons V8.out.live.hd V8.out.live.tl.tl), V8.out.below⟩
        (with_reducible refine (sub_c V8.out.live.tl.hd V8.out.live.tl.hd V8.out.live.hd ((Bd.mul BT.out Q3.out.bn).sm (by omega)) ((Bd.mul (Bd.mul BO.out BO.out) (Q3.out.ba (by omega))).sm (by omega))).mono ?_)
        rintro e w10 hg
        obtain rfl := hg.1
        have V9 := Lib.hid (V8'.out.put hg (fun p hp => by
          rcases List.mem_cons.1 hp with rfl | hp
          · exact fun h => NE2.out (bx, _) List.mem_cons_self h.symm
          · exact NE.out p hp) HBX.out)
        have VX : Hid (LV W w10 [(bx, St.nxt (val d[j + 1] - X) y q), (ba, q.ah), (bn, q.nw), (xb, X)]) := by
          refine Lib.hid ⟨Live.cons ?_ V9.out.live.tl.tl, V9.out.below⟩
          have := V9.out.live.hd
          unfold St.nxt
          rw [HYO.out]
          exact this
        clear hg V8 V8' V9 V5
        have hS : s = 1 ∨ s = -1 := by have := Q3.out.s; rw [Q2.out] at this; exact this
        have hN : sgnI (St.nxt (val d[j + 1] - X) y q) = -1 ∨ sgnI (St.nxt (val d[j + 1] - X) y q) = 0 ∨ sgnI (St.nxt (val d[j + 1] - X) y q) = 1 := by unfold sgnI; (repeat' split) <;> simp
        obtain ⟨sN, hsN⟩ : ∃ sN, sgnI (St.nxt (val d[j + 1] - X) y q) = sN := ⟨_, rfl⟩
        have sc := isign_c VX.out.live.hd
        rw [hsN] at sc hN
        have SC := Lib.hid sc
        have sv := stp_val (last := decide (j + 1 + 1 = d.length)) hsN Q2.out
        have cq := Q1.out
        rw [cq] at sv
        have c0 : 0 ≤ c := by have := Q3.out.c0; rw [cq] at this; exact this
        have c1 : c ≤ 64 := by have := Q3.out.c1; rw [cq] at this; omega
        have NX := Lib.hid (Q3.out.next hlt CD.out CO.out HL.out HY0.out HY1.out HROW.out BX.out (Live.cons VX.out.live.hd (Live.cons VX.out.live.tl.tl.hd (Live.cons VX.out.live.tl.tl.tl.hd (Live.nil _)))) N3.out VX.out.below)
        have SV := Lib.hid sv
        clear sc hsN sv cq
        by_cases hlast : j + 1 + 1 = d.length
        all_goals
          have HLA := Lib.hid hlast
          rcases hS with rfl | rfl <;> rcases hN with rfl | rfl | rfl
        all_goals
          have sv := SV.out
          have nx := NX.out
          first
            | rw [decide_eq_true HLA.out] at sv nx
            | rw [decide_eq_false HLA.out] at sv nx
          simp at sv
          have SV2 := Lib.hid sv
          have NX2 := Lib.hid nx
          first
            | have l2 : decide ((j : Int) + 1 < (d.length : Int) - 1) = false := decide_eq_false (by have := HLA.out; omega)
            | have l2 : decide ((j : Int) + 1 < (d.length : Int) - 1) = true := decide_eq_true (by have := HLA.out; omega)
          clear sv SV hlast nx NX
          go_wp2_with ((with_reducible refine (SC.out).mono ?_); rintro e w9 ⟨rfl, rfl⟩)
          go_roundw
          case rel => exact ⟨j + 1 + 1, _, _, bn, bx, rfl, rfl, rfl, rfl, by go_num, by omega, Lib.hid ⟨_, SV2.out.1, SV2.out.2, NX2.out⟩⟩
          case measure => simp [intOf]; omega
    · have hk2 : k = d.length := by omega
      have l1 : decide (k < d.length) = false := decide_eq_false hlt
      have fin : c = St.prt X (d.map val) (o.map val) := by
        obtain ⟨q, h1, h2, h3⟩ := hq.out
        have hr := h3.run
        rw [List.drop_eq_nil_iff.2 (by rw [St.rw_len, List.length_map]; omega)] at hr
        unfold St.prt
        rw [← hr, ← h1]; rfl
      have bl : Below W.heap.size W wr := by obtain ⟨q, h1, h2, h3⟩ := hq.out; exact h3.below
      have FIN := Lib.hid fin
      have BL := Lib.hid bl
      clear fin bl hk2 hq
      go_wp2
      go_ret
      exact ⟨ret_int FIN.out, BL.out⟩
end Go.Proofs.YtaedkekjekbjmaaGreatDoor

/- What the small functions of package round answer: signs, steps, what is settled. -/
namespace Go.Proofs.YtaedkekjekbjmaaGreatDoor
open Go Go.RowKit GFl
set_option maxRecDepth 100000
attribute [local go_sem] run_f64frombits run_neg_f64
/-- Neither NaN nor an infinity. -/
def fin (x : Nat) : Bool := decide (rg x < 9218868437227405312)
theorem lt0 {x : Nat} (hx : W64 x) : (FloatKind.f64.format.order x 0 == some .lt) = (!isn x && decide (plc x < 0)) := by
  rw [t_lt hx (w_const (by decide)), isn0, plc0]; simp
theorem eq0 {x : Nat} (hx : W64 x) : (FloatKind.f64.format.order x 0 == some .eq) = (!isn x && decide (plc x = 0)) := by
  rw [t_eq hx (w_const (by decide)), isn0, plc0]; simp
attribute [local go_sem] run_f64bits
end Go.Proofs.YtaedkekjekbjmaaGreatDoor

/- sturm.below. -/
namespace Go.Proofs.YtaedkekjekbjmaaGreatDoor
open Go Go.RowKit Nv GFl
open Go.Proofs.YtaedkekjekbjmaaGreatDoorW.PrintWords (Kd print_mid_of)
set_option maxRecDepth 100000
set_option linter.unusedSimpArgs false

theorem f_info : (Tryz.prog.info? 28).map (fun i => (i.zero, i.size, i.bytes)) = some (some (.float .f64 0), 1, 8) := by kernel_rfl
theorem f_info1 : ∃ i, Tryz.prog.info? 28 = some i ∧ i.size = 1 := by
  obtain ⟨i, hi, hz⟩ := Option.map_eq_some_iff.1 f_info
  simp only [Prod.mk.injEq] at hz
  exact ⟨i, hi, hz.2.1⟩
/-- A piece of a list of floats. -/
theorem Fl.mid (A : Option Addr) (c : Nat) (l : List Nat) (a b : Nat) (h1 : a ≤ b) (h2 : b ≤ l.length) (hc : l.length ≤ c) :
    ∃ (A' : Option Addr) (c' : Nat), (∀ W : World, (Instr.slice 22 (.slice A l.length c) (some (.int .i64 (a : Int))) (some (.int .i64 (b : Int))) none).run Tryz.prog W = .ok (.slice A' ((l.take b).drop a).length c') W) ∧
      (∀ w : World, Fl w A l → Fl w A' ((l.take b).drop a)) ∧ ((l.take b).drop a).length ≤ c' := by
  obtain ⟨i, hi, hs⟩ := f_info1
  obtain ⟨A', k1, k2, k3⟩ := print_mid_of (P := Tryz.prog) (Value.float .f64) 0 22 28 .i64 .i64 Tryz.underlying22 hi hs A c l (a : Int) (b : Int) (by omega) (by omega) (by omega) hc
  simp only [Int.toNat_natCast] at k1 k2 k3
  exact ⟨A', c - a, k1, fun w h => Kd.C_of_reads (k2 w (Kd.reads_of_C (d := (0 : Nat)) h)), k3⟩
theorem val_zero {x : Nat} : val x = 0 ↔ plc x = 0 := by
  rw [plc_zero, val_eq']
  have h1 := le_mg B52 (rg x) B52_pos
  have h2 : rg x = 0 → mg B52 (rg x) = 0 := fun h => by rw [h]; exact mg_zero _ B52_pos
  show (if neg x = true then -((mg B52 (rg x) : Nat) : Int) else ((mg B52 (rg x) : Nat) : Int)) = 0 ↔ rg x = 0
  generalize mg B52 (rg x) = m at *
  split <;> omega
theorem Cf.isn {x : Nat} (h : Cf x) : GFl.isn x = false := by rw [isn_eq]; have := h.r; simp; omega
theorem Cf.eq0 {x : Nat} (h : Cf x) : (FloatKind.f64.format.order x 0 == some .eq) = decide (GFl.val x = 0) := by
  rw [Go.Proofs.YtaedkekjekbjmaaGreatDoor.eq0 h.w, h.isn]
  rw [Bool.eq_iff_iff]
  simp [val_zero]
/-- What holds at the head of below's loop. -/
structure BI (W w : World) (d o : List Nat) (xb : Nat) (X : Int) (k f : Nat) (c : Int) : Prop where
  ix : IntAt w xb X
  below : Below W.heap.size W w
  fk : f ≤ k
  c0 : 0 ≤ c
  c1 : c ≤ f
  tot : c + St.cnt X ((d.map val).drop f) ((o.map val).drop f) = St.cnt X (d.map val) (o.map val)
  nz : ∀ j, f ≤ j → j < k → ∀ h : j < o.length, val o[j] ≠ 0
  en : k = d.length → f = k
theorem BI.skip {W w : World} {d o : List Nat} {xb : Nat} {X : Int} {k f : Nat} {c : Int} (h : BI W w d o xb X k f c) (hl : d.length = o.length + 1) (hko : k < o.length) (hk : ∀ h : k < o.length, val o[k] ≠ 0) : BI W w d o xb X (k + 1) f c :=
  ⟨h.ix, h.below, by have := h.fk; omega, h.c0, h.c1, h.tot, fun j h1 h2 h3 => by
    rcases Nat.lt_or_ge j k with h4 | h4
    · exact h.nz j h1 h4 h3
    · obtain rfl : j = k := by omega
      exact hk h3, fun h => by omega⟩
theorem piece (X : Int) (d o : List Int) (k f : Nat) (hl : d.length = o.length + 1) (hk : k < d.length) (hf : f ≤ k) (hz : ∀ h : k < o.length, o[k] = 0) (hn : ∀ j, f ≤ j → j < k → ∀ h : j < o.length, o[j] ≠ 0) :
    St.prt X ((d.take (k + 1)).drop f) ((o.take k).drop f) + St.cnt X (d.drop (k + 1)) (o.drop (k + 1)) = St.cnt X (d.drop f) (o.drop f) ∧ 0 ≤ St.prt X ((d.take (k + 1)).drop f) ((o.take k).drop f) ∧ St.prt X ((d.take (k + 1)).drop f) ((o.take k).drop f) ≤ k + 1 - f := by
  have e1 : ((d.take (k + 1)).drop f).length = ((o.take k).drop f).length + 1 := by simp; omega
  have e2 : ∀ y ∈ (o.take k).drop f, y ≠ 0 := by
    intro y hy
    obtain ⟨j, hj, rfl⟩ := List.mem_iff_getElem.1 hy
    simp at hj
    have := hn (f + j) (by omega) (by omega) (by omega)
    simpa using this
  rw [St.prt_cnt X _ _ e1 e2]
  have hr := St.cnt_range X ((d.take (k + 1)).drop f) ((o.take k).drop f)
  have hlen : ((d.take (k + 1)).drop f).length = k + 1 - f := by simp; omega
  rw [hlen] at hr
  refine ⟨?_, hr.1, by omega⟩
  have hd : d.drop f = (d.take (k + 1)).drop f ++ d.drop (k + 1) := by
    have := List.take_append_drop (k + 1) d
    conv => lhs; rw [← this]
    rw [List.drop_append_of_le_length (by simp; omega)]
  rcases Nat.lt_or_ge k o.length with h | h
  · have ho : o.drop f = (o.take k).drop f ++ 0 :: o.drop (k + 1) := by
      have h1 := List.take_append_drop k o
      rw [List.drop_eq_getElem_cons h, hz h] at h1
      conv => lhs; rw [← h1]
      rw [List.drop_append_of_le_length (by simp; omega)]
    rw [hd, ho, St.cnt_app X _ _ _ _ e1]
  · have e3 : d.drop (k + 1) = [] := List.drop_of_length_le (by omega)
    have e4 : o.take k = o := List.take_of_length_le h
    have e5 : St.cnt X [] (o.drop (k + 1)) = 0 := rfl
    rw [hd, e3, List.append_nil, e4, e5, Int.add_zero]
theorem BI.cut {W w w' : World} {d o : List Nat} {xb : Nat} {X : Int} {k f : Nat} {c : Int} (h : BI W w d o xb X k f c) (hl : d.length = o.length + 1) (hk : k < d.length) (hz : ∀ h : k < o.length, val o[k] = 0) (hb : Below w.heap.size w w') :
    BI W w' d o xb X (k + 1) (k + 1) (c + St.prt X ((d.map val |>.take (k + 1)).drop f) ((o.map val |>.take k).drop f)) := by
  obtain ⟨p1, p2, p3⟩ := piece X (d.map val) (o.map val) k f (by simpa using hl) (by simpa using hk) h.fk (fun h' => by rw [List.getElem_map]; exact hz (by simpa using h')) (fun j h1 h2 h3 => by rw [List.getElem_map]; exact h.nz j h1 h2 (by simpa using h3))
  refine ⟨h.ix.below hb, bl_then h.below hb, Nat.le_refl _, by have := h.c0; omega, by have := h.c1; omega, ?_, fun j h1 h2 _ => by omega, fun _ => rfl⟩
  have := h.tot
  omega
set_option maxHeartbeats 4000000 in
theorem below_c (A B : Option Addr) (cA cB : Nat) (d o : List Nat) (x : Nat) (W : World) (hd : Fl W A d) (ho : Fl W B o) (hA : d.length ≤ cA) (hB : o.length ≤ cB) (cd : ∀ x ∈ d, Cf x) (co : ∀ x ∈ o, Cf x) (hl : d.length = o.length + 1) (hn : d.length ≤ 64) (hx : W64 x) (hf : rg x < 9218868437227405312) (bx : Bd 1577 (val x)) (hT : Tab W) :
    Calls Tryz.prog 19 #[.agg #[.slice A d.length cA, .slice B o.length cB], .float .f64 x] W fun e w' => e = .returned (.int .i64 (St.cnt (val x) (d.map val) (o.map val))) ∧ Below W.heap.size W w' := by
  have HD := Lib.hid hd
  have HO := Lib.hid ho
  have CD := Lib.hid cd
  have CO := Lib.hid co
  have HL := Lib.hid hl
  have BX := Lib.hid bx
  have HT := Lib.hid hT
  have HX := Lib.hid hx
  have HF := Lib.hid hf
  have HA := Lib.hid hA
  have HB := Lib.hid hB
  clear hd ho cd co hl hx bx hT hf hA hB
  go_enter Tryz.func19, Tryz.ntmps19
  go_wp2_with fail
  have BA := Lib.hid ((Below.refl W.heap.size W).alloc (Nat.le_refl _) (.cells #[.slice A d.length cA, .slice B o.length cB] 24))
  (with_reducible refine (whole_c x HX.out HF.out _ (HT.out.below BA.out)).mono ?_)
  rintro e w1 ⟨xb, rfl, n1, i1, h1⟩
  have hblk : w1.heap[W.heap.size]? = _ := kb_new h1
  have P0 : Hid (BI W w1 d o xb (val x) 0 0 0) := Lib.hid ⟨i1, BA.out.trans (h1.mono (by simp)), Nat.le_refl _, Int.le_refl _, Int.le_refl _, by simp, fun j _ h2 => by omega, fun h => h ▸ rfl⟩
  have HK := Lib.hid hblk
  have cc0 := kb_cell hblk (i := 0) rfl
  have cc1 := kb_cell hblk (i := 1) rfl
  clear n1 i1 h1 hblk
  go_wp2
  go_loopw [5, 6, 14] (fun v5 v6 v14 wr => ∃ (k f : Nat) (c : Int), v5 = .int .i64 c ∧ v6 = .int .i64 f ∧ v14 = .int .i64 k ∧ k ≤ d.length ∧ Hid (BI W wr d o xb (val x) k f c ∧ Below w1.heap.size w1 wr)) (fun _ _ v _ => d.length - (intOf v).toNat)
  case atStart => exact ⟨0, 0, 0, rfl, rfl, rfl, Nat.zero_le _, Lib.hid ⟨P0.out, Below.refl _ _⟩⟩
  case round =>
    obtain ⟨k, f, c, rfl, rfl, rfl, hk, hq⟩ := hrel
    clear P0 cc0 cc1
    by_cases hlt : k < d.length
    · have l1 : decide (k < d.length) = true := decide_eq_true hlt
      have hb2 : wr.heap[W.heap.size]? = _ := kb_keep hq.out.2 HK.out
      have cc0 := kb_cell hb2 (i := 0) rfl
      have cc1 := kb_cell hb2 (i := 1) rfl
      have HK2 := Lib.hid hb2
      have c0 := hq.out.1.c0
      have c1 : c ≤ 64 := by have := hq.out.1.c1; have := hq.out.1.fk; omega
      clear hb2
      rcases Nat.lt_or_ge k o.length with hko | hko
      · obtain ⟨bd, hB0, hc⟩ := HO.out.at hko
        subst hB0
        have hcell2 : wr.cell? (bd.add k) = some (.float .f64 o[k]) := (hq.out.1.below.cell (World.block_lt_of_cell? W _ hc)).trans hc
        have t0 := (CO.out _ (List.getElem_mem hko)).eq0
        have l2 : ((k : Int) == (o.length : Int)) = false := by rw [beq_eq_false_iff_ne]; omega
        have l3 : (k == o.length) = false := by rw [beq_eq_false_iff_ne]; omega
        clear hc
        by_cases hz : val o[k] = 0
        · rw [decide_eq_true hz] at t0
          have HZ : Hid (∀ h : k < o.length, val o[k] = 0) := Lib.hid (fun _ => hz)
          clear hz
          obtain ⟨A1, e1, s1, f1, g1⟩ := Fl.mid A cA d f (k + 1) (by have := hq.out.1.fk; omega) (by omega) HA.out
          obtain ⟨B1, e2, s2, f2, g2⟩ := Fl.mid (some bd) cB o f k hq.out.1.fk (by have := HL.out; omega) HB.out
          rw [show ((k + 1 : Nat) : Int) = (k : Int) + 1 from rfl] at s1
          have F1 := Lib.hid (f1 _ (HD.out.below hq.out.1.below))
          have F2 := Lib.hid (f2 _ (HO.out.below hq.out.1.below))
          have pc := part_c A1 B1 e1 e2 ((d.take (k + 1)).drop f) ((o.take k).drop f) xb (val x) wr.drew F1.out F2.out (fun y hy => CD.out y (List.mem_of_mem_take (List.mem_of_mem_drop hy))) (fun y hy => CO.out y (List.mem_of_mem_take (List.mem_of_mem_drop hy))) (by have := HL.out; simp; have := hq.out.1.fk; omega) (by simp; omega) (hq.out.1.ix.below (dr_below _)) BX.out (HT.out.below (bl_then hq.out.1.below (dr_below _)))
          obtain ⟨P, hP⟩ : ∃ P, St.prt (val x) (((d.take (k + 1)).drop f).map val) (((o.take k).drop f).map val) = P := ⟨_, rfl⟩
          rw [hP] at pc
          obtain ⟨m1, hm1⟩ : ∃ m, ((d.take (k + 1)).drop f).length = m := ⟨_, rfl⟩
          obtain ⟨m2, hm2⟩ : ∃ m, ((o.take k).drop f).length = m := ⟨_, rfl⟩
          rw [hm1, hm2] at pc
          rw [hm1] at s1
          rw [hm2] at s2
          have PC := Lib.hid pc
          clear hm1 hm2 g1 g2
          have bi : ∀ w', Below wr.heap.size wr w' → BI W w' d o xb (val x) (k + 1) (k + 1) (c + P) := fun w' h => by
            have := hq.out.1.cut HL.out hlt HZ.out h
            rw [← List.map_take, ← List.map_drop, ← List.map_take, ← List.map_drop, hP] at this
            exact this
          have p2 : 0 ≤ P ∧ P ≤ 64 := by
            have h1 := piece (val x) (d.map val) (o.map val) k f (by simpa using HL.out) (by simpa using hlt) hq.out.1.fk (fun h' => by rw [List.getElem_map]; exact HZ.out (by simpa using h')) (fun j h1 h2 h3 => by rw [List.getElem_map]; exact hq.out.1.nz j h1 h2 (by simpa using h3))
            rw [← List.map_take, ← List.map_drop, ← List.map_take, ← List.map_drop, hP] at h1
            omega
          obtain ⟨p3, p4⟩ := p2
          have BIF := Lib.hid bi
          have hw1 : IntKind.i64.wrap ((k : Int) + 1) = (k : Int) + 1 := by rw [IntKind.wrap_i64]; omega
          have hw2 : IntKind.i64.wrap (c + P) = c + P := by rw [IntKind.wrap_i64]; omega
          clear pc bi hP f1 f2
          go_wp2
          have hS : wr.drew.cell? ⟨W.heap.size, 0, none⟩ = some (.slice A d.length cA) ∧ wr.drew.cell? ⟨W.heap.size, 1, none⟩ = some (.slice (some bd) o.length cB) := ⟨cc0, cc1⟩
          refine wp_region_G (g := 13) (S := fun w' => w'.cell? ⟨W.heap.size, 0, none⟩ = some (.slice A d.length cA) ∧ w'.cell? ⟨W.heap.size, 1, none⟩ = some (.slice (some bd) o.length cB)) (by kernel_rfl) ?_
          (refine wpG_take (i := 0) (v := ?_) rfl rfl (by kernel_rfl) (by kernel_rfl) (by kernel_rfl) (fun _ _ _ h => h) (Or.inl ⟨by rfl, fun w => ?_⟩) (Or.inr hS) ?_; rotate_left; focus (go_simp; first | done | with_reducible rfl | exact rfl)); (try simp only [Act.put, List.setIfInBounds_toArray, List.set_cons_zero, List.set_cons_succ, List.getElem_toArray, List.getElem_cons_zero, List.getElem_cons_succ]); (refine wpG_take (i := 1) (v := ?_) rfl rfl (by kernel_rfl) (by kernel_rfl) (by kernel_rfl) (fun _ _ _ h => h) (Or.inl ⟨by rfl, fun w => ?_⟩) (Or.inr hS) ?_; rotate_left; focus (go_simp; first | done | with_reducible rfl | exact rfl)); (try simp only [Act.put, List.setIfInBounds_toArray, List.set_cons_zero, List.set_cons_succ, List.getElem_toArray, List.getElem_cons_zero, List.getElem_cons_succ])
          (refine wpG_ld (i := 2) 6 (v := ?_) rfl rfl (by kernel_rfl) (by kernel_rfl) (by kernel_rfl) (by kernel_rfl) (fun _ _ _ h => h) (Or.inl ⟨by rfl, ?_⟩) hS ?_; rotate_left; focus (intro w hSw; (try dsimp only at hSw); go_simp; first | done | with_reducible rfl | exact rfl)); (try simp only [Act.put, List.setIfInBounds_toArray, List.set_cons_zero, List.set_cons_succ, List.getElem_toArray, List.getElem_cons_zero, List.getElem_cons_succ])
          (refine wpG_take (i := 3) (v := ?_) rfl rfl (by kernel_rfl) (by kernel_rfl) (by kernel_rfl) (fun _ _ _ h => h) (Or.inl ⟨by rfl, fun w => ?_⟩) (Or.inr hS) ?_; rotate_left; focus (go_simp; first | done | with_reducible rfl | exact rfl)); (try simp only [Act.put, List.setIfInBounds_toArray, List.set_cons_zero, List.set_cons_succ, List.getElem_toArray, List.getElem_cons_zero, List.getElem_cons_succ]); (refine wpG_take (i := 4) (v := ?_) rfl rfl (by kernel_rfl) (by kernel_rfl) (by kernel_rfl) (fun _ _ _ h => h) (Or.inl ⟨by rfl, fun w => ?_⟩) (Or.inr hS) ?_; rotate_left; focus (go_simp; first | done | with_reducible rfl | exact rfl)); (try simp only [Act.put, List.setIfInBounds_toArray, List.set_cons_zero, List.set_cons_succ, List.getElem_toArray, List.getElem_cons_zero, List.getElem_cons_succ]); (refine wpG_take (i := 5) (v := ?_) rfl rfl (by kernel_rfl) (by kernel_rfl) (by kernel_rfl) (fun _ _ _ h => h) (Or.inl ⟨by rfl, fun w => ?_⟩) (Or.inr hS) ?_; rotate_left; focus (go_simp; first | done | with_reducible rfl | exact rfl)); (try simp only [Act.put, List.setIfInBounds_toArray, List.set_cons_zero, List.set_cons_succ, List.getElem_toArray, List.getElem_cons_zero, List.getElem_cons_succ]); (refine wpG_take (i := 6) (v := ?_) rfl rfl (by kernel_rfl) (by kernel_rfl) (by kernel_rfl) (fun _ _ _ h => h) (Or.inl ⟨by rfl, fun w => ?_⟩) (Or.inr hS) ?_; rotate_left; focus (go_simp; first | done | with_reducible rfl | exact rfl)); (try simp only [Act.put, List.setIfInBounds_toArray, List.set_cons_zero, List.set_cons_succ, List.getElem_toArray, List.getElem_cons_zero, List.getElem_cons_succ]); (refine wpG_take (i := 7) (v := ?_) rfl rfl (by kernel_rfl) (by kernel_rfl) (by kernel_rfl) (fun _ _ _ h => h) (Or.inl ⟨by rfl, fun w => ?_⟩) (Or.inr hS) ?_; rotate_left; focus (go_simp; first | done | with_reducible rfl | exact rfl)); (try simp only [Act.put, List.setIfInBounds_toArray, List.set_cons_zero, List.set_cons_succ, List.getElem_toArray, List.getElem_cons_zero, List.getElem_cons_succ])
          (refine wpG_ld (i := 8) 11 (v := ?_) rfl rfl (by kernel_rfl) (by kernel_rfl) (by kernel_rfl) (by kernel_rfl) (fun _ _ _ h => h) (Or.inl ⟨by rfl, ?_⟩) hS ?_; rotate_left; focus (intro w hSw; (try dsimp only at hSw); go_simp; first | done | with_reducible rfl | exact rfl)); (try simp only [Act.put, List.setIfInBounds_toArray, List.set_cons_zero, List.set_cons_succ, List.getElem_toArray, List.getElem_cons_zero, List.getElem_cons_succ])
          (refine wpG_take (i := 9) (v := ?_) rfl rfl (by kernel_rfl) (by kernel_rfl) (by kernel_rfl) (fun _ _ _ h => h) (Or.inl ⟨by rfl, fun w => ?_⟩) (Or.inr hS) ?_; rotate_left; focus (go_simp; first | done | with_reducible rfl | exact rfl)); (try simp only [Act.put, List.setIfInBounds_toArray, List.set_cons_zero, List.set_cons_succ, List.getElem_toArray, List.getElem_cons_zero, List.getElem_cons_succ]); (refine wpG_take (i := 10) (v := ?_) rfl rfl (by kernel_rfl) (by kernel_rfl) (by kernel_rfl) (fun _ _ _ h => h) (Or.inl ⟨by rfl, fun w => ?_⟩) (Or.inr hS) ?_; rotate_left; focus (go_simp; first | done | with_reducible rfl | exact rfl)); (try simp only [Act.put, List.setIfInBounds_toArray, List.set_cons_zero, List.set_cons_succ, List.getElem_toArray, List.getElem_cons_zero, List.getElem_cons_succ]); (refine wpG_take (i := 11) (v := ?_) rfl rfl (by kernel_rfl) (by kernel_rfl) (by kernel_rfl) (fun _ _ _ h => h) (Or.inl ⟨by rfl, fun w => ?_⟩) (Or.inr hS) ?_; rotate_left; focus (go_simp; first | done | with_reducible rfl | exact rfl)); (try simp only [Act.put, List.setIfInBounds_toArray, List.set_cons_zero, List.set_cons_succ, List.getElem_toArray, List.getElem_cons_zero, List.getElem_cons_succ]); (refine wpG_take (i := 12) (v := ?_) rfl rfl (by kernel_rfl) (by kernel_rfl) (by kernel_rfl) (fun _ _ _ h => h) (Or.inl ⟨by rfl, fun w => ?_⟩) (Or.inr hS) ?_; rotate_left; focus (go_simp; first | done | with_reducible rfl | exact rfl)); (try simp only [Act.put, List.setIfInBounds_toArray, List.set_cons_zero, List.set_cons_succ, List.getElem_toArray, List.getElem_cons_zero, List.getElem_cons_succ])
          refine wpG_one (i := 13) (by kernel_rfl) rfl (fun K hK => ?_); have HK := Lib.hid hK; clear hK
          go_simp
          (with_reducible refine (PC.out).mono ?_)
          rintro e w2 ⟨rfl, hb⟩
          have HB2 := Lib.hid ((dr_below wr).trans hb)
          refine HK.out _ _ (Or.inl (by kernel_rfl)) ?_
          clear hb HK K hS
          (try simp only [Act.put, List.setIfInBounds_toArray, List.set_cons_zero, List.set_cons_succ, List.getElem_toArray, List.getElem_cons_zero, List.getElem_cons_succ])
          (refine wpG_take (i := 14) (v := ?_) rfl rfl (by kernel_rfl) (by kernel_rfl) (by kernel_rfl) (fun _ _ _ h => h) (Or.inl ⟨by rfl, fun w => ?_⟩) (Or.inl (by kernel_rfl)) ?_; rotate_left; focus (go_simp; first | done | with_reducible rfl | exact rfl)); (try simp only [Act.put, List.setIfInBounds_toArray, List.set_cons_zero, List.set_cons_succ, List.getElem_toArray, List.getElem_cons_zero, List.getElem_cons_succ])
          refine wpG_one (i := 15) (by kernel_rfl) rfl (fun K hK => ?_); have HK := Lib.hid hK; clear hK; go_simp; refine HK.out _ _ (Or.inl (by kernel_rfl)) ?_; clear HK K; (try simp only [Act.put, List.setIfInBounds_toArray, List.set_cons_zero, List.set_cons_succ, List.getElem_toArray, List.getElem_cons_zero, List.getElem_cons_succ])
          refine wpG_done (by kernel_rfl) ?_ _
          go_wp2
          go_roundw
          case rel => exact ⟨k + 1, k + 1, c + P, rfl, by go_num, by go_num, by omega, Lib.hid ⟨BIF.out _ HB2.out, bl_then hq.out.2 HB2.out⟩⟩
          case measure => simp [intOf]; omega
        · rw [decide_eq_false hz] at t0
          have BS := Lib.hid (hq.out.1.skip HL.out hko (fun _ => hz))
          clear hz
          go_wp2
          go_roundw
          case rel => exact ⟨k + 1, f, c, rfl, rfl, by go_num, by omega, Lib.hid ⟨BS.out, hq.out.2⟩⟩
          case measure => simp [intOf]; omega
      · have l2 : ((k : Int) == (o.length : Int)) = true := by rw [beq_iff_eq]; have := HL.out; omega
        have l3 : (k == o.length) = true := by rw [beq_iff_eq]; have := HL.out; omega
        have HZ : Hid (∀ h : k < o.length, val o[k] = 0) := Lib.hid (fun h => absurd h (by omega))
        obtain ⟨A1, e1, s1, f1, g1⟩ := Fl.mid A cA d f (k + 1) (by have := hq.out.1.fk; omega) (by omega) HA.out
        obtain ⟨B1, e2, s2, f2, g2⟩ := Fl.mid B cB o f k hq.out.1.fk (by have := HL.out; omega) HB.out
        rw [show ((k + 1 : Nat) : Int) = (k : Int) + 1 from rfl] at s1
        have F1 := Lib.hid (f1 _ (HD.out.below hq.out.1.below))
        have F2 := Lib.hid (f2 _ (HO.out.below hq.out.1.below))
        have pc := part_c A1 B1 e1 e2 ((d.take (k + 1)).drop f) ((o.take k).drop f) xb (val x) wr.drew F1.out F2.out (fun y hy => CD.out y (List.mem_of_mem_take (List.mem_of_mem_drop hy))) (fun y hy => CO.out y (List.mem_of_mem_take (List.mem_of_mem_drop hy))) (by have := HL.out; simp; have := hq.out.1.fk; omega) (by simp; omega) (hq.out.1.ix.below (dr_below _)) BX.out (HT.out.below (bl_then hq.out.1.below (dr_below _)))
        obtain ⟨P, hP⟩ : ∃ P, St.prt (val x) (((d.take (k + 1)).drop f).map val) (((o.take k).drop f).map val) = P := ⟨_, rfl⟩
        rw [hP] at pc
        obtain ⟨m1, hm1⟩ : ∃ m, ((d.take (k + 1)).drop f).length = m := ⟨_, rfl⟩
        obtain ⟨m2, hm2⟩ : ∃ m, ((o.take k).drop f).length = m := ⟨_, rfl⟩
        rw [hm1, hm2] at pc
        rw [hm1] at s1
        rw [hm2] at s2
        have PC := Lib.hid pc
        clear hm1 hm2 g1 g2
        have bi : ∀ w', Below wr.heap.size wr w' → BI W w' d o xb (val x) (k + 1) (k + 1) (c + P) := fun w' h => by
          have := hq.out.1.cut HL.out hlt HZ.out h
          rw [← List.map_take, ← List.map_drop, ← List.map_take, ← List.map_drop, hP] at this
          exact this
        have p2 : 0 ≤ P ∧ P ≤ 64 := by
          have h1 := piece (val x) (d.map val) (o.map val) k f (by simpa using HL.out) (by simpa using hlt) hq.out.1.fk (fun h' => by rw [List.getElem_map]; exact HZ.out (by simpa using h')) (fun j h1 h2 h3 => by rw [List.getElem_map]; exact hq.out.1.nz j h1 h2 (by simpa using h3))
          rw [← List.map_take, ← List.map_drop, ← List.map_take, ← List.map_drop, hP] at h1
          omega
        obtain ⟨p3, p4⟩ := p2
        have BIF := Lib.hid bi
        have hw1 : IntKind.i64.wrap ((k : Int) + 1) = (k : Int) + 1 := by rw [IntKind.wrap_i64]; omega
        have hw2 : IntKind.i64.wrap (c + P) = c + P := by rw [IntKind.wrap_i64]; omega
        clear pc bi hP f1 f2
        go_wp2
        have hS : wr.drew.cell? ⟨W.heap.size, 0, none⟩ = some (.slice A d.length cA) ∧ wr.drew.cell? ⟨W.heap.size, 1, none⟩ = some (.slice B o.length cB) := ⟨cc0, cc1⟩
        refine wp_region_G (g := 13) (S := fun w' => w'.cell? ⟨W.heap.size, 0, none⟩ = some (.slice A d.length cA) ∧ w'.cell? ⟨W.heap.size, 1, none⟩ = some (.slice B o.length cB)) (by kernel_rfl) ?_
        (refine wpG_take (i := 0) (v := ?_) rfl rfl (by kernel_rfl) (by kernel_rfl) (by kernel_rfl) (fun _ _ _ h => h) (Or.inl ⟨by rfl, fun w => ?_⟩) (Or.inr hS) ?_; rotate_left; focus (go_simp; first | done | with_reducible rfl | exact rfl)); (try simp only [Act.put, List.setIfInBounds_toArray, List.set_cons_zero, List.set_cons_succ, List.getElem_toArray, List.getElem_cons_zero, List.getElem_cons_succ]); (refine wpG_take (i := 1) (v := ?_) rfl rfl (by kernel_rfl) (by kernel_rfl) (by kernel_rfl) (fun _ _ _ h => h) (Or.inl ⟨by rfl, fun w => ?_⟩) (Or.inr hS) ?_; rotate_left; focus (go_simp; first | done | with_reducible rfl | exact rfl)); (try simp only [Act.put, List.setIfInBounds_toArray, List.set_cons_zero, List.set_cons_succ, List.getElem_toArray, List.getElem_cons_zero, List.getElem_cons_succ])
        (refine wpG_ld (i := 2) 6 (v := ?_) rfl rfl (by kernel_rfl) (by kernel_rfl) (by kernel_rfl) (by kernel_rfl) (fun _ _ _ h => h) (Or.inl ⟨by rfl, ?_⟩) hS ?_; rotate_left; focus (intro w hSw; (try dsimp only at hSw); go_simp; first | done | with_reducible rfl | exact rfl)); (try simp only [Act.put, List.setIfInBounds_toArray, List.set_cons_zero, List.set_cons_succ, List.getElem_toArray, List.getElem_cons_zero, List.getElem_cons_succ])
        (refine wpG_take (i := 3) (v := ?_) rfl rfl (by kernel_rfl) (by kernel_rfl) (by kernel_rfl) (fun _ _ _ h => h) (Or.inl ⟨by rfl, fun w => ?_⟩) (Or.inr hS) ?_; rotate_left; focus (go_simp; first | done | with_reducible rfl | exact rfl)); (try simp only [Act.put, List.setIfInBounds_toArray, List.set_cons_zero, List.set_cons_succ, List.getElem_toArray, List.getElem_cons_zero, List.getElem_cons_succ]); (refine wpG_take (i := 4) (v := ?_) rfl rfl (by kernel_rfl) (by kernel_rfl) (by kernel_rfl) (fun _ _ _ h => h) (Or.inl ⟨by rfl, fun w => ?_⟩) (Or.inr hS) ?_; rotate_left; focus (go_simp; first | done | with_reducible rfl | exact rfl)); (try simp only [Act.put, List.setIfInBounds_toArray, List.set_cons_zero, List.set_cons_succ, List.getElem_toArray, List.getElem_cons_zero, List.getElem_cons_succ]); (refine wpG_take (i := 5) (v := ?_) rfl rfl (by kernel_rfl) (by kernel_rfl) (by kernel_rfl) (fun _ _ _ h => h) (Or.inl ⟨by rfl, fun w => ?_⟩) (Or.inr hS) ?_; rotate_left; focus (go_simp; first | done | with_reducible rfl | exact rfl)); (try simp only [Act.put, List.setIfInBounds_toArray, List.set_cons_zero, List.set_cons_succ, List.getElem_toArray, List.getElem_cons_zero, List.getElem_cons_succ]); (refine wpG_take (i := 6) (v := ?_) rfl rfl (by kernel_rfl) (by kernel_rfl) (by kernel_rfl) (fun _ _ _ h => h) (Or.inl ⟨by rfl, fun w => ?_⟩) (Or.inr hS) ?_; rotate_left; focus (go_simp; first | done | with_reducible rfl | exact rfl)); (try simp only [Act.put, List.setIfInBounds_toArray, List.set_cons_zero, List.set_cons_succ, List.getElem_toArray, List.getElem_cons_zero, List.getElem_cons_succ]); (refine wpG_take (i := 7) (v := ?_) rfl rfl (by kernel_rfl) (by kernel_rfl) (by kernel_rfl) (fun _ _ _ h => h) (Or.inl ⟨by rfl, fun w => ?_⟩) (Or.inr hS) ?_; rotate_left; focus (go_simp; first | done | with_reducible rfl | exact rfl)); (try simp only [Act.put, List.setIfInBounds_toArray, List.set_cons_zero, List.set_cons_succ, List.getElem_toArray, List.getElem_cons_zero, List.getElem_cons_succ])
        (refine wpG_ld (i := 8) 11 (v := ?_) rfl rfl (by kernel_rfl) (by kernel_rfl) (by kernel_rfl) (by kernel_rfl) (fun _ _ _ h => h) (Or.inl ⟨by rfl, ?_⟩) hS ?_; rotate_left; focus (intro w hSw; (try dsimp only at hSw); go_simp; first | done | with_reducible rfl | exact rfl)); (try simp only [Act.put, List.setIfInBounds_toArray, List.set_cons_zero, List.set_cons_succ, List.getElem_toArray, List.getElem_cons_zero, List.getElem_cons_succ])
        (refine wpG_take (i := 9) (v := ?_) rfl rfl (by kernel_rfl) (by kernel_rfl) (by kernel_rfl) (fun _ _ _ h => h) (Or.inl ⟨by rfl, fun w => ?_⟩) (Or.inr hS) ?_; rotate_left; focus (go_simp; first | done | with_reducible rfl | exact rfl)); (try simp only [Act.put, List.setIfInBounds_toArray, List.set_cons_zero, List.set_cons_succ, List.getElem_toArray, List.getElem_cons_zero, List.getElem_cons_succ]); (refine wpG_take (i := 10) (v := ?_) rfl rfl (by kernel_rfl) (by kernel_rfl) (by kernel_rfl) (fun _ _ _ h => h) (Or.inl ⟨by rfl, fun w => ?_⟩) (Or.inr hS) ?_; rotate_left; focus (go_simp; first | done | with_reducible rfl | exact rfl)); (try simp only [Act.put, List.setIfInBounds_toArray, List.set_cons_zero, List.set_cons_succ, List.getElem_toArray, List.getElem_cons_zero, List.getElem_cons_succ]); (refine wpG_take (i := 11) (v := ?_) rfl rfl (by kernel_rfl) (by kernel_rfl) (by kernel_rfl) (fun _ _ _ h => h) (Or.inl ⟨by rfl, fun w => ?_⟩) (Or.inr hS) ?_; rotate_left; focus (go_simp; first | done | with_reducible rfl | exact rfl)); (try simp only [Act.put, List.setIfInBounds_toArray, List.set_cons_zero, List.set_cons_succ, List.getElem_toArray, List.getElem_cons_zero, List.getElem_cons_succ]); (refine wpG_take (i := 12) (v := ?_) rfl rfl (by kernel_rfl) (by kernel_rfl) (by kernel_rfl) (fun _ _ _ h => h) (Or.inl ⟨by rfl, fun w => ?_⟩) (Or.inr hS) ?_; rotate_left; focus (go_simp; first | done | with_reducible rfl | exact rfl)); (try simp only [Act.put, List.setIfInBounds_toArray, List.set_cons_zero, List.set_cons_succ, List.getElem_toArray, List.getElem_cons_zero, List.getElem_cons_succ])
        refine wpG_one (i := 13) (by kernel_rfl) rfl (fun K hK => ?_); have HK := Lib.hid hK; clear hK
        go_simp
        (with_reducible refine (PC.out).mono ?_)
        rintro e w2 ⟨rfl, hb⟩
        have HB2 := Lib.hid ((dr_below wr).trans hb)
        refine HK.out _ _ (Or.inl (by kernel_rfl)) ?_
        clear hb HK K hS
        (try simp only [Act.put, List.setIfInBounds_toArray, List.set_cons_zero, List.set_cons_succ, List.getElem_toArray, List.getElem_cons_zero, List.getElem_cons_succ])
        (refine wpG_take (i := 14) (v := ?_) rfl rfl (by kernel_rfl) (by kernel_rfl) (by kernel_rfl) (fun _ _ _ h => h) (Or.inl ⟨by rfl, fun w => ?_⟩) (Or.inl (by kernel_rfl)) ?_; rotate_left; focus (go_simp; first | done | with_reducible rfl | exact rfl)); (try simp only [Act.put, List.setIfInBounds_toArray, List.set_cons_zero, List.set_cons_succ, List.getElem_toArray, List.getElem_cons_zero, List.getElem_cons_succ])
        refine wpG_one (i := 15) (by kernel_rfl) rfl (fun K hK => ?_); have HK := Lib.hid hK; clear hK; go_simp; refine HK.out _ _ (Or.inl (by kernel_rfl)) ?_; clear HK K; (try simp only [Act.put, List.setIfInBounds_toArray, List.set_cons_zero, List.set_cons_succ, List.getElem_toArray, List.getElem_cons_zero, List.getElem_cons_succ])
        refine wpG_done (by kernel_rfl) ?_ _
        go_wp2
        go_roundw
        case rel => exact ⟨k + 1, k + 1, c + P, rfl, by go_num, by go_num, by omega, Lib.hid ⟨BIF.out _ HB2.out, bl_then hq.out.2 HB2.out⟩⟩
        case measure => simp [intOf]; omega
    · have l1 : decide (k < d.length) = false := decide_eq_false hlt
      have fin : c = St.cnt (val x) (d.map val) (o.map val) := by
        have h1 := hq.out.1.tot
        have h2 := hq.out.1.en (by omega)
        rw [List.drop_of_length_le (l := d.map val) (by simp; omega)] at h1
        rw [← h1, show St.cnt (val x) [] ((o.map val).drop f) = 0 from rfl, Int.add_zero]
      have FIN := Lib.hid fin
      have BL := Lib.hid hq.out.1.below
      clear fin hq
      go_wp2
      go_ret
      exact ⟨ret_int FIN.out, BL.out⟩
end Go.Proofs.YtaedkekjekbjmaaGreatDoor

/- sturm.Right, wrong, Exact. -/
namespace Go.Proofs.YtaedkekjekbjmaaGreatDoor
open Go Go.RowKit Nv GFl
open Go.Proofs.YtaedkekjekbjmaaGreatDoorW.PrintWords (Kd)
set_option maxRecDepth 100000
set_option linter.unusedSimpArgs false

def okF (x : Nat) : Bool := decide (rg x ≤ 6858982232485265408)
def rightB (d o : List Nat) : Bool := decide (1 ≤ d.length ∧ d.length ≤ 64 ∧ o.length + 1 = d.length) && (d.all okF && o.all okF)
theorem abs_le (x : Nat) : (FloatKind.f64.format.order (fabs x) 6858982232485265408 == some .lt || FloatKind.f64.format.order (fabs x) 6858982232485265408 == some .eq) = okF x := by
  rw [t_le (fabs_w x) (w_const (by decide)), fabs_isn, fabs_plc]
  have e1 : isn 6858982232485265408 = false := by decide
  have e2 : plc 6858982232485265408 = 6858982232485265408 := by decide
  rw [e1, e2]
  unfold okF
  rw [isn_eq, Bool.eq_iff_iff]
  simp
  omega
theorem allT {p : Nat → Bool} {l : List Nat} {k : Nat} (hk : k < l.length) (h : (l.take k).all p = true) (h1 : p l[k] = true) : (l.take (k + 1)).all p = true := by
  rw [List.take_succ_eq_append_getElem hk, List.all_append, h]; simp [h1]
theorem allN {p : Nat → Bool} {l : List Nat} {k : Nat} (hk : k < l.length) (h1 : p l[k] = false) : l.all p = false := by
  rw [List.all_eq_false]
  exact ⟨l[k], List.getElem_mem hk, by rw [h1]; simp⟩
set_option maxHeartbeats 4000000 in
theorem right_c (A B : Option Addr) (cA cB : Nat) (d o : List Nat) (W : World) (hd : Fl W A d) (ho : Fl W B o) (wd : ∀ x ∈ d, W64 x) (wo : ∀ x ∈ o, W64 x) :
    Calls Tryz.prog 5 #[.agg #[.slice A d.length cA, .slice B o.length cB]] W fun e w' => e = .returned (.bool (rightB d o)) ∧ Below W.heap.size W w' := by
  have hdl := hd.2.1
  have hol := ho.2.1
  by_cases h1 : 1 ≤ d.length ∧ d.length ≤ 64 ∧ o.length + 1 = d.length
  · have HD := Lib.hid hd
    have HO := Lib.hid ho
    have WD := Lib.hid wd
    have WO := Lib.hid wo
    have RB : Hid (rightB d o = (d.all okF && o.all okF)) := Lib.hid (by unfold rightB; rw [decide_eq_true h1]; rfl)
    obtain ⟨a1, a2, a3⟩ := h1
    have k1 : decide (d.length < 1) = false := decide_eq_false (by omega)
    have k2 : decide (64 < d.length) = false := decide_eq_false (by omega)
    have k3 : ((o.length : Int) != (d.length : Int) - 1) = false := by simp; omega
    have k4 : decide ((d.length : Int) < 1) = false := decide_eq_false (by omega)
    have k5 : decide ((64 : Int) < (d.length : Int)) = false := decide_eq_false (by omega)
    have i0 : ∀ w : World, (Instr.index 39 (.agg #[.slice A d.length cA, .slice B o.length cB]) (.int .i64 0)).run Tryz.prog w = .ok (.slice A d.length cA) w := fun _ => by kernel_rfl
    have i1 : ∀ w : World, (Instr.index 39 (.agg #[.slice A d.length cA, .slice B o.length cB]) (.int .i64 1)).run Tryz.prog w = .ok (.slice B o.length cB) w := fun _ => by kernel_rfl
    clear hd ho wd wo
    go_enter Tryz.func5, Tryz.ntmps5
    go_wp2
    go_loop [32] (fun v => ∃ k : Nat, v = .int .i64 k ∧ k ≤ 2 ∧ (1 ≤ k → d.all okF = true) ∧ (2 ≤ k → o.all okF = true)) (fun v => 2 - (intOf v).toNat)
    case atStart => exact ⟨0, rfl, by omega, fun h => absurd h (by omega), fun h => absurd h (by omega)⟩
    case round =>
      obtain ⟨k, rfl, hk, p1, p2⟩ := hrel
      have P1 := Lib.hid p1
      have P2 := Lib.hid p2
      clear p1 p2
      have hk3 : k = 0 ∨ k = 1 ∨ k = 2 := by omega
      rcases hk3 with rfl | rfl | rfl
      · go_wp2
        go_loop [37] (fun v => ∃ j : Nat, v = .int .i64 j ∧ j ≤ d.length ∧ Hid ((d.take j).all okF = true)) (fun v => d.length - (intOf v).toNat)
        case atStart => exact ⟨0, rfl, Nat.zero_le _, rfl⟩
        case round =>
          obtain ⟨j, rfl, hj, ha⟩ := hrel
          by_cases hlt : j < d.length
          · obtain ⟨ad, hA, hc⟩ := HD.out.at hlt
            subst hA
            have hcell : (W.alloc (.cells #[.slice (some ad) d.length cA, .slice B o.length cB] 24)).cell? (ad.add j) = some (.float .f64 d[j]) := (((Below.refl W.heap.size W).alloc (Nat.le_refl _) _).cell (World.block_lt_of_cell? W _ hc)).trans hc
            have l1 : decide (j < d.length) = true := decide_eq_true hlt
            have hx := WD.out _ (List.getElem_mem hlt)
            have le := abs_le d[j]
            have AL := Lib.hid (allT (p := okF) hlt ha.out)
            have AN := Lib.hid (allN (p := okF) hlt)
            have HX := Lib.hid hx
            clear hc hx ha
            cases hok : okF d[j]
            · rw [hok] at le
              have HOK := Lib.hid hok
              clear hok
              go_wp2_with (go_at_call 15; (with_reducible refine (abs_c _ HX.out _).mono ?_); rintro e w' ⟨rfl, hw⟩; obtain rfl := hw.symm; clear hw)
              go_ret
              exact ⟨ret_bool (by rw [RB.out, AN.out HOK.out]; simp), (Below.refl _ _).alloc (Nat.le_refl _) _⟩
            · rw [hok] at le
              have HOK := Lib.hid hok
              clear hok
              go_wp2_with (go_at_call 15; (with_reducible refine (abs_c _ HX.out _).mono ?_); rintro e w' ⟨rfl, hw⟩; obtain rfl := hw.symm; clear hw)
              go_round
              case rel => exact ⟨j + 1, by go_num, by omega, AL.out HOK.out⟩
              case measure => simp [intOf]; omega
          · have l1 : decide (j < d.length) = false := decide_eq_false hlt
            have e1 : d.all okF = true := by have := ha.out; rw [List.take_of_length_le (by omega)] at this; exact this
            have E1 := Lib.hid e1
            clear e1 ha
            go_wp2
            go_round
            case rel => exact ⟨1, by go_num, by omega, fun _ => E1.out, fun h => absurd h (by omega)⟩
            case measure => simp [intOf]
      · go_wp2
        go_loop [37] (fun v => ∃ j : Nat, v = .int .i64 j ∧ j ≤ o.length ∧ Hid ((o.take j).all okF = true)) (fun v => o.length - (intOf v).toNat)
        case atStart => exact ⟨0, rfl, Nat.zero_le _, rfl⟩
        case round =>
          obtain ⟨j, rfl, hj, ha⟩ := hrel
          by_cases hlt : j < o.length
          · obtain ⟨ad, hA, hc⟩ := HO.out.at hlt
            subst hA
            have hcell : (W.alloc (.cells #[.slice A d.length cA, .slice (some ad) o.length cB] 24)).cell? (ad.add j) = some (.float .f64 o[j]) := (((Below.refl W.heap.size W).alloc (Nat.le_refl _) _).cell (World.block_lt_of_cell? W _ hc)).trans hc
            have l1 : decide (j < o.length) = true := decide_eq_true hlt
            have hx := WO.out _ (List.getElem_mem hlt)
            have le := abs_le o[j]
            have AL := Lib.hid (allT (p := okF) hlt ha.out)
            have AN := Lib.hid (allN (p := okF) hlt)
            have HX := Lib.hid hx
            clear hc hx ha
            cases hok : okF o[j]
            · rw [hok] at le
              have HOK := Lib.hid hok
              clear hok
              go_wp2_with (go_at_call 15; (with_reducible refine (abs_c _ HX.out _).mono ?_); rintro e w' ⟨rfl, hw⟩; obtain rfl := hw.symm; clear hw)
              go_ret
              exact ⟨ret_bool (by rw [RB.out, AN.out HOK.out]; simp), (Below.refl _ _).alloc (Nat.le_refl _) _⟩
            · rw [hok] at le
              have HOK := Lib.hid hok
              clear hok
              go_wp2_with (go_at_call 15; (with_reducible refine (abs_c _ HX.out _).mono ?_); rintro e w' ⟨rfl, hw⟩; obtain rfl := hw.symm; clear hw)
              go_round
              case rel => exact ⟨j + 1, by go_num, by omega, AL.out HOK.out⟩
              case measure => simp [intOf]; omega
          · have l1 : decide (j < o.length) = false := decide_eq_false hlt
            have e1 : o.all okF = true := by have := ha.out; rw [List.take_of_length_le (by omega)] at this; exact this
            have E1 := Lib.hid e1
            clear e1 ha
            go_wp2
            go_round
            case rel => exact ⟨2, by go_num, by omega, fun _ => P1.out (by omega), fun _ => E1.out⟩
            case measure => simp [intOf]
      · go_wp2
        go_ret
        exact ⟨ret_bool (by rw [RB.out, P1.out (by omega), P2.out (by omega)]; rfl), (Below.refl _ _).alloc (Nat.le_refl _) _⟩
  · have RB : Hid (false = rightB d o) := Lib.hid (by unfold rightB; rw [decide_eq_false h1]; rfl)
    clear hd ho wd wo
    by_cases h2 : d.length < 1
    · have k1 : decide (d.length < 1) = true := decide_eq_true h2
      have k4 : decide ((d.length : Int) < 1) = true := decide_eq_true (by omega)
      clear h1
      go_enter Tryz.func5, Tryz.ntmps5
      go_wp2
      go_ret
      exact ⟨ret_bool RB.out, (Below.refl _ _).alloc (Nat.le_refl _) _⟩
    · have k1 : decide (d.length < 1) = false := decide_eq_false h2
      have k4 : decide ((d.length : Int) < 1) = false := decide_eq_false (by omega)
      by_cases h3 : 64 < d.length
      · have k2 : decide (64 < d.length) = true := decide_eq_true h3
        have k5 : decide ((64 : Int) < (d.length : Int)) = true := decide_eq_true (by omega)
        clear h1
        go_enter Tryz.func5, Tryz.ntmps5
        go_wp2
        go_ret
        exact ⟨ret_bool RB.out, (Below.refl _ _).alloc (Nat.le_refl _) _⟩
      · have k2 : decide (64 < d.length) = false := decide_eq_false h3
        have k5 : decide ((64 : Int) < (d.length : Int)) = false := decide_eq_false (by omega)
        have k3 : ((o.length : Int) != (d.length : Int) - 1) = true := by simp; omega
        clear h1
        go_enter Tryz.func5, Tryz.ntmps5
        go_wp2
        go_ret
        exact ⟨ret_bool RB.out, (Below.refl _ _).alloc (Nat.le_refl _) _⟩
theorem nan_ne {x : Nat} (h1 : FloatKind.f64.format.infRung < x % FloatKind.f64.format.signWeight) (h2 : x < 2 ^ FloatKind.f64.format.width) : (FloatKind.f64.format.order x 0 != some .eq) = true := by
  have hw : W64 x := h2
  have hn : isn x = true := by unfold isn nan; exact decide_eq_true h1
  rw [t_ne hw (w_const (by decide)), hn]; rfl
def wrongE (d o : List Nat) (x : Nat) : Int := if rightB d o = true then (if 9218868437227405312 ≤ rg x then 5 else if 6867989431740006400 < rg x then 2 else 0) else 4
theorem abs_gt (x : Nat) (hf : rg x < 9218868437227405312) : (FloatKind.f64.format.order (fabs x) 6867989431740006400 == some .gt) = decide (6867989431740006400 < rg x) := by
  rw [t_gt (fabs_w x) (w_const (by decide)), fabs_isn, fabs_plc]
  have e1 : isn 6867989431740006400 = false := by decide
  have e2 : plc 6867989431740006400 = 6867989431740006400 := by decide
  rw [e1, e2, isn_eq, Bool.eq_iff_iff]
  simp
  omega
set_option maxHeartbeats 4000000 in
theorem wrong_c (A B : Option Addr) (cA cB : Nat) (d o : List Nat) (x : Nat) (W : World) (hd : Fl W A d) (ho : Fl W B o) (wd : ∀ x ∈ d, W64 x) (wo : ∀ x ∈ o, W64 x) (hx : W64 x) :
    Calls Tryz.prog 31 #[.agg #[.slice A d.length cA, .slice B o.length cB], .float .f64 x] W fun e w' => e = .returned (.int .i64 (wrongE d o x)) ∧ Below W.heap.size W w' := by
  have rc : ∀ w, Below W.heap.size W w → Calls Tryz.prog 5 #[.agg #[.slice A d.length cA, .slice B o.length cB]] w fun e w' => e = .returned (.bool (rightB d o)) ∧ Below w.heap.size w w' := fun w h => right_c A B cA cB d o w (hd.below h) (ho.below h) wd wo
  have BA := Lib.hid ((Below.refl W.heap.size W).alloc (Nat.le_refl _) (.cells #[.slice A d.length cA, .slice B o.length cB] 24))
  cases hr : rightB d o
  · have we : wrongE d o x = 4 := by unfold wrongE; rw [hr]; rfl
    rw [hr] at rc
    have RC := Lib.hid rc
    have WE := Lib.hid we
    clear rc hr we hd ho wd wo hx
    go_enter Tryz.func31, Tryz.ntmps31
    go_wp2_with (go_at_call 5; (with_reducible refine (RC.out _ BA.out).mono ?_); rintro e w1 ⟨rfl, hb⟩; have HB := Lib.hid hb; clear hb)
    go_ret
    exact ⟨ret_int WE.out.symm, BA.out.trans (HB.out.mono (by simp))⟩
  · have we : wrongE d o x = if 9218868437227405312 ≤ rg x then 5 else if 6867989431740006400 < rg x then 2 else 0 := by unfold wrongE; rw [hr]; rfl
    rw [hr] at rc
    have RC := Lib.hid rc
    clear rc hr hd ho wd wo
    rcases Nat.lt_or_ge (rg x) 9218868437227405312 with hf | hf
    · have s0 : ∀ (t : TypeId) w, (binOp .sub t (.float .f64 x) (.float .f64 x)).run Tryz.prog w = .ok (.float .f64 0) w := fun t w => run_float_arith w .sub t .f64 x x 0 (sub_self_fin hx hf)
      have t0 : (FloatKind.f64.format.order 0 0 != some .eq) = false := by decide
      have t1 := abs_gt x hf
      rw [if_neg (by omega)] at we
      have WE := Lib.hid we
      have HX := Lib.hid hx
      clear we hx hf
      by_cases hg : 6867989431740006400 < rg x
      · rw [decide_eq_true hg] at t1
        have HG := Lib.hid hg
        clear hg
        go_enter Tryz.func31, Tryz.ntmps31
        go_wp2_with (first
          | (go_at_call 5; (with_reducible refine (RC.out _ BA.out).mono ?_); rintro e w1 ⟨rfl, hb⟩; have HB := Lib.hid hb; clear hb)
          | (go_at_call 15; (with_reducible refine (abs_c _ HX.out _).mono ?_); rintro e w' ⟨rfl, hw⟩; obtain rfl := hw.symm; clear hw))
        go_ret
        exact ⟨ret_int (by rw [WE.out, if_pos HG.out]), BA.out.trans (HB.out.mono (by simp))⟩
      · rw [decide_eq_false hg] at t1
        have HG := Lib.hid hg
        clear hg
        go_enter Tryz.func31, Tryz.ntmps31
        go_wp2_with (first
          | (go_at_call 5; (with_reducible refine (RC.out _ BA.out).mono ?_); rintro e w1 ⟨rfl, hb⟩; have HB := Lib.hid hb; clear hb)
          | (go_at_call 15; (with_reducible refine (abs_c _ HX.out _).mono ?_); rintro e w' ⟨rfl, hw⟩; obtain rfl := hw.symm; clear hw))
        go_ret
        exact ⟨ret_int (by rw [WE.out, if_neg HG.out]), BA.out.trans (HB.out.mono (by simp))⟩
    · have s0 : floatBits .sub .f64 x x = none := sub_self_no hx hf
      rw [if_pos hf] at we
      have WE := Lib.hid we
      have S0 := Lib.hid s0
      clear we hx hf s0
      go_enter Tryz.func31, Tryz.ntmps31
      go_wp2_with (first
        | (go_at_call 5; (with_reducible refine (RC.out _ BA.out).mono ?_); rintro e w1 ⟨rfl, hb⟩; have HB := Lib.hid hb; clear hb)
        | (refine wp_arith .f64 x x rfl rfl rfl ?_; intro r n hr; rw [S0.out] at hr; have t0 := nan_ne hr.1 hr.2; clear hr))
      go_ret
      exact ⟨ret_int WE.out.symm, bl_drewN (BA.out.trans (HB.out.mono (by simp))) _⟩
theorem rightB_d {d o : List Nat} (h : rightB d o = true) : 1 ≤ d.length ∧ d.length ≤ 64 ∧ o.length + 1 = d.length ∧ (∀ x ∈ d, rg x ≤ 6858982232485265408) ∧ (∀ x ∈ o, rg x ≤ 6858982232485265408) := by
  unfold rightB okF at h
  simp only [Bool.and_eq_true, decide_eq_true_eq, List.all_eq_true] at h
  exact ⟨h.1.1, h.1.2.1, h.1.2.2, h.2.1, h.2.2⟩
theorem bd_x {x : Nat} (h : rg x ≤ 6867989431740006400) : Bd 1577 (val x) := by
  have h1 := mg_mono (B := B52) B52_pos h
  have h2 : mg B52 6867989431740006400 = p2 1576 := by
    have : (6867989431740006400 : Nat) = 1525 * B52 + 0 := by decide
    rw [this, mg_B 1525 0 (by decide) (by decide)]
    have e : B52 + 0 = p2 52 := by rw [p2_def]
    rw [e, ← p2_add]
  rw [h2] at h1
  have e : (GFl.val x).natAbs = mg B52 (rg x) := by rw [val_eq']; show (if _ then -((mg B52 (rg x) : Nat) : Int) else ((mg B52 (rg x) : Nat) : Int)).natAbs = _; generalize mg B52 (rg x) = m; split <;> omega
  exact bd_of e h1 rfl
def exactN (d o : List Nat) (x : Nat) : Int := if wrongE d o x = 0 then St.cnt (val x) (d.map val) (o.map val) else 0
set_option maxHeartbeats 4000000 in
theorem exact_c (A B : Option Addr) (cA cB : Nat) (d o : List Nat) (x : Nat) (W : World) (hd : Fl W A d) (ho : Fl W B o) (hA : d.length ≤ cA) (hB : o.length ≤ cB) (wd : ∀ x ∈ d, W64 x) (wo : ∀ x ∈ o, W64 x) (hx : W64 x) (hT : Tab W) :
    Calls Tryz.prog 13 #[.agg #[.slice A d.length cA, .slice B o.length cB], .float .f64 x] W fun e w' => e = .returned (.tuple #[.int .i64 (exactN d o x), .int .i64 (wrongE d o x)]) ∧ Below W.heap.size W w' := by
  have wc : ∀ w, Below W.heap.size W w → Calls Tryz.prog 31 #[.agg #[.slice A d.length cA, .slice B o.length cB], .float .f64 x] w fun e w' => e = .returned (.int .i64 (wrongE d o x)) ∧ Below w.heap.size w w' := fun w h => wrong_c A B cA cB d o x w (hd.below h) (ho.below h) wd wo hx
  have BA := Lib.hid ((Below.refl W.heap.size W).alloc (Nat.le_refl _) (.cells #[.slice A d.length cA, .slice B o.length cB] 24))
  have bc : wrongE d o x = 0 → ∀ w, Below W.heap.size W w → Calls Tryz.prog 19 #[.agg #[.slice A d.length cA, .slice B o.length cB], .float .f64 x] w fun e w' => e = .returned (.int .i64 (exactN d o x)) ∧ Below w.heap.size w w' := fun h w hb => by
    unfold exactN
    rw [if_pos h]
    unfold wrongE at h
    by_cases hr : rightB d o = true
    · rw [if_pos hr] at h
      obtain ⟨r1, r2, r3, r4, r5⟩ := rightB_d hr
      have hx1 : rg x ≤ 6867989431740006400 := by
        rcases Nat.lt_or_ge 6867989431740006400 (rg x) with h1 | h1
        · rw [if_pos h1] at h; split at h <;> cases h
        · exact h1
      exact below_c A B cA cB d o x w (hd.below hb) (ho.below hb) hA hB (fun y hy => ⟨wd y hy, r4 y hy⟩) (fun y hy => ⟨wo y hy, r5 y hy⟩) (by omega) r2 hx (by omega) (bd_x hx1) (hT.below hb)
    · rw [if_neg hr] at h; cases h
  by_cases hw : wrongE d o x = 0
  · have BC := Lib.hid (bc hw)
    rw [hw] at wc
    have WC := Lib.hid wc
    have HW := Lib.hid hw
    clear wc bc hw hd ho hA hB wd wo hx hT
    go_enter Tryz.func13, Tryz.ntmps13
    go_wp2_with (first
      | (go_at_call 31; (with_reducible refine (WC.out _ BA.out).mono ?_); rintro e w1 ⟨rfl, hb⟩
         have hblk : w1.heap[W.heap.size]? = _ := kb_new hb
         have cc0 := kb_cell hblk (i := 0) rfl
         have cc1 := kb_cell hblk (i := 1) rfl
         have HB := Lib.hid (BA.out.trans (hb.mono (by simp))); clear hb hblk)
      | (go_at_call 19; (with_reducible refine (BC.out _ HB.out).mono ?_); rintro e w2 ⟨rfl, hb⟩; have HB2 := Lib.hid (bl_then HB.out hb); clear hb))
    go_ret2
    exact ⟨ret_int_int rfl HW.out.symm, HB2.out⟩
  · have e0 : exactN d o x = 0 := if_neg hw
    have k0 : (wrongE d o x != 0) = true := by simpa using hw
    obtain ⟨E, hE⟩ : ∃ E, wrongE d o x = E := ⟨_, rfl⟩
    rw [hE] at wc k0
    rw [hE]
    have WC := Lib.hid wc
    have E0 := Lib.hid e0
    clear wc bc hw hd ho hA hB wd wo hx hT e0 hE
    go_enter Tryz.func13, Tryz.ntmps13
    go_wp2_with (first
      | (go_at_call 31; (with_reducible refine (WC.out _ BA.out).mono ?_); rintro e w1 ⟨rfl, hb⟩; have HB := Lib.hid (BA.out.trans (hb.mono (by simp))); clear hb))
    go_ret2
    exact ⟨ret_int_int E0.out.symm rfl, HB.out⟩
end Go.Proofs.YtaedkekjekbjmaaGreatDoor

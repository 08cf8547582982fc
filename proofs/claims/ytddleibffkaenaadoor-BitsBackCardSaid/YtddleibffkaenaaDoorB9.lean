/- Split, Join and Ulp, bits' and girderref01's alike: one answer for both. -/
import Derived.Test.YtddleibffkaenaaDoorB8
namespace Go.Proofs.YtddleibffkaenaaDoor
open Go Go.RowKit GFl
set_option maxRecDepth 100000

/-- The fraction of a float's parts. -/
noncomputable def spF (x : Nat) : Nat := open Classical in if h : (0 < rg x ∧ rg x < 9218868437227405312) ∧ ∃ fr ex, IsSplit x fr ex then Classical.choose h.2 else 0
/-- The power of a float's parts. -/
noncomputable def spE (x : Nat) : Int := open Classical in if h : (0 < rg x ∧ rg x < 9218868437227405312) ∧ ∃ fr ex, IsSplit x fr ex then Classical.choose (Classical.choose_spec h.2) else 0
def spN (x : Nat) : Bool := finF x && neg x
theorem sp_of {x fr : Nat} {ex : Int} (h0 : 0 < rg x) (h1 : rg x < 9218868437227405312) (h : IsSplit x fr ex) : spF x = fr ∧ spE x = ex := by
  have hh : (0 < rg x ∧ rg x < 9218868437227405312) ∧ ∃ fr ex, IsSplit x fr ex := ⟨⟨h0, h1⟩, fr, ex, h⟩
  unfold spF spE
  rw [dif_pos hh, dif_pos hh]
  exact (Classical.choose_spec (Classical.choose_spec hh.2)).unique h
theorem sp_no {x : Nat} (h : ¬ (0 < rg x ∧ rg x < 9218868437227405312)) : spF x = 0 ∧ spE x = 0 := by
  unfold spF spE
  rw [dif_neg (fun h' => h h'.1), dif_neg (fun h' => h h'.1)]
  exact ⟨rfl, rfl⟩
theorem finF_t {x : Nat} (h : rg x < 9218868437227405312) : finF x = true := by unfold finF; simp [h]
theorem finF_f {x : Nat} (h : 9218868437227405312 ≤ rg x) : finF x = false := by unfold finF; simp; omega
theorem spN_t {x : Nat} (h : rg x < 9218868437227405312) : spN x = neg x := by unfold spN; rw [finF_t h]; rfl
theorem spN_f {x : Nat} (h : 9218868437227405312 ≤ rg x) : spN x = false := by unfold spN; rw [finF_f h]; rfl
def SpPost (x : Nat) (w : World) (e : Ending) (w' : World) : Prop := e = .returned (.tuple #[.agg #[.bool (spN x), .int .u64 (spF x : Nat), .int .i64 (spE x)], .bool (finF x)]) ∧ Below w.heap.size w w'
theorem split_any (x : Nat) (hx : W64 x) (w : World) (hT : Tab w) : Calls Tryd.prog 10 #[.float .f64 x] w (SpPost x w) := by
  rcases Nat.lt_or_ge (rg x) 9218868437227405312 with h | h
  · rcases Nat.eq_zero_or_pos (rg x) with h0 | h0
    · obtain ⟨a, b⟩ := sp_no (x := x) (by omega)
      unfold SpPost
      rw [spN_t h, finF_t h, a, b]
      exact split_z x hx h0 w
    · refine (split_yes x hx h0 h w hT).mono ?_
      rintro e w' ⟨fr, ex, rfl, hs, _, _, hb⟩
      obtain ⟨a, b⟩ := sp_of h0 h hs
      unfold SpPost
      rw [spN_t h, finF_t h, a, b]
      exact ⟨rfl, hb⟩
  · obtain ⟨a, b⟩ := sp_no (x := x) (by omega)
    unfold SpPost
    rw [spN_f h, finF_f h, a, b]
    exact split_no x hx h w
theorem splitR_any (x : Nat) (hx : W64 x) (w : World) : Calls Tryd.prog 11 #[.float .f64 x] w (SpPost x w) := by
  rcases Nat.lt_or_ge (rg x) 9218868437227405312 with h | h
  · rcases Nat.eq_zero_or_pos (rg x) with h0 | h0
    · obtain ⟨a, b⟩ := sp_no (x := x) (by omega)
      unfold SpPost
      rw [spN_t h, finF_t h, a, b]
      exact splitR_z x hx h0 w
    · refine (splitR_yes x hx h0 h w).mono ?_
      rintro e w' ⟨fr, ex, rfl, hs, hb⟩
      obtain ⟨a, b⟩ := sp_of h0 h hs
      unfold SpPost
      rw [spN_t h, finF_t h, a, b]
      exact ⟨rfl, hb⟩
  · obtain ⟨a, b⟩ := sp_no (x := x) (by omega)
    unfold SpPost
    rw [spN_f h, finF_f h, a, b]
    exact splitR_no x hx h w

noncomputable def ulpW (x : Nat) : Nat := open Classical in if h : rg x < 9218868437227405312 ∧ ∃ z, IsUlp x z then Classical.choose h.2 else 0
theorem ulpW_of {x z : Nat} (h1 : rg x < 9218868437227405312) (h : IsUlp x z) : ulpW x = z := by
  have hh : rg x < 9218868437227405312 ∧ ∃ z, IsUlp x z := ⟨h1, z, h⟩
  unfold ulpW
  rw [dif_pos hh]
  exact (Classical.choose_spec hh.2).unique h
theorem ulpW_no {x : Nat} (h : 9218868437227405312 ≤ rg x) : ulpW x = 0 := by
  unfold ulpW
  rw [dif_neg (fun h' => by omega)]
def UlPost (x : Nat) (w : World) (e : Ending) (w' : World) : Prop := e = .returned (.tuple #[.float .f64 (ulpW x), .bool (finF x)]) ∧ W64 (ulpW x) ∧ (rg x < 9218868437227405312 → IsUlp x (ulpW x)) ∧ Below w.heap.size w w'
theorem ulp_any (x : Nat) (hx : W64 x) (w : World) : Calls Tryd.prog 14 #[.float .f64 x] w (UlPost x w) := by
  rcases Nat.lt_or_ge (rg x) 9218868437227405312 with h | h
  · refine (ulp_yes x hx h w).mono ?_
    rintro e w' ⟨z, rfl, hz, hb⟩
    unfold UlPost
    rw [ulpW_of h hz, finF_t h]
    exact ⟨rfl, hz.w, fun _ => hz, hb⟩
  · refine (ulp_no x hx h w).mono ?_
    rintro e w' ⟨rfl, rfl⟩
    unfold UlPost
    rw [ulpW_no h, finF_f h]
    exact ⟨rfl, W64.mk (by decide), fun h' => by omega, Below.refl _ _⟩
theorem ulpR_any (x : Nat) (hx : W64 x) (w : World) : Calls Tryd.prog 15 #[.float .f64 x] w (UlPost x w) := by
  rcases Nat.lt_or_ge (rg x) 9218868437227405312 with h | h
  · refine (ulpR_yes x hx h w).mono ?_
    rintro e w' ⟨z, rfl, hz, hb⟩
    unfold UlPost
    rw [ulpW_of h hz, finF_t h]
    exact ⟨rfl, hz.w, fun _ => hz, hb⟩
  · refine (ulpR_no x hx h w).mono ?_
    rintro e w' ⟨rfl, rfl⟩
    unfold UlPost
    rw [ulpW_no h, finF_f h]
    exact ⟨rfl, W64.mk (by decide), fun h' => by omega, Below.refl _ _⟩

noncomputable def jnO (fr : Nat) (ex : Int) : Bool := @decide (joinOk fr ex) (Classical.propDecidable _)
noncomputable def jnW (ng : Bool) (fr : Nat) (ex : Int) : Nat := open Classical in if h : joinOk fr ex ∧ ∃ z, IsJoin ng fr ex z then Classical.choose h.2 else 0
theorem jnO_iff {fr : Nat} {ex : Int} : jnO fr ex = true ↔ joinOk fr ex := by unfold jnO; exact @decide_eq_true_iff _ (Classical.propDecidable _)
def JnPost (ng : Bool) (fr : Nat) (ex : Int) (w : World) (e : Ending) (w' : World) : Prop := e = .returned (.tuple #[.float .f64 (jnW ng fr ex), .bool (jnO fr ex)]) ∧ W64 (jnW ng fr ex) ∧ (joinOk fr ex → IsJoin ng fr ex (jnW ng fr ex)) ∧ (¬ joinOk fr ex → jnW ng fr ex = 0) ∧ Below w.heap.size w w'
theorem jn_of {ng : Bool} {fr : Nat} {ex : Int} {w : World} {e : Ending} {w' : World} (h : JoinPost ng fr ex w e w') : JnPost ng fr ex w e w' := by
  obtain ⟨z, ok, rfl, h1, h2, h3, hb⟩ := h
  unfold JnPost
  cases ok
  · have hno : ¬ joinOk fr ex := fun h => by have := h1.2 h; cases this
    have e1 : jnO fr ex = false := by rw [← Bool.not_eq_true, jnO_iff]; exact hno
    have e2 : jnW ng fr ex = 0 := by unfold jnW; rw [dif_neg (fun h => hno h.1)]
    rw [e1, e2, h3 rfl]
    exact ⟨rfl, W64.mk (by decide), fun h => absurd h hno, fun _ => rfl, hb⟩
  · have hok := h1.1 rfl
    have hz := h2 rfl
    have e1 : jnO fr ex = true := jnO_iff.2 hok
    have hh : joinOk fr ex ∧ ∃ z, IsJoin ng fr ex z := ⟨hok, z, hz⟩
    have e2 : jnW ng fr ex = z := by
      unfold jnW; rw [dif_pos hh]; exact (Classical.choose_spec hh.2).unique hz
    rw [e1, e2]
    exact ⟨rfl, hz.w, fun _ => hz, fun h => absurd hok h, hb⟩
theorem join_any (ng : Bool) (fr : Nat) (ex : Int) (hf : fr < 18446744073709551616) (he1 : -9223372036854775808 ≤ ex) (he2 : ex ≤ 9223372036854775807) (w : World) :
    Calls Tryd.prog 25 #[.agg #[.bool ng, .int .u64 fr, .int .i64 ex]] w (JnPost ng fr ex w) := (join_c ng fr ex hf he1 he2 w).mono fun _ _ => jn_of
theorem joinR_any (ng : Bool) (fr : Nat) (ex : Int) (hf : fr < 18446744073709551616) (he1 : -9223372036854775808 ≤ ex) (he2 : ex ≤ 9223372036854775807) (w : World) :
    Calls Tryd.prog 26 #[.agg #[.bool ng, .int .u64 fr, .int .i64 ex]] w (JnPost ng fr ex w) := (joinR_c ng fr ex hf he1 he2 w).mono fun _ _ => jn_of
end Go.Proofs.YtddleibffkaenaaDoor

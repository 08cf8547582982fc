import Derived.Test.YtalhpbilkhdfhaaDoorTRTo
import Derived.Test.YtalhpbilkhdfhaaDoorCards
import Derived.Test.YtalhpbilkhdfhaaDoorTie
import Derived.SevenTiedAt
import Derived.Carry
/- girder/girderlaw03.RoundTurned answers true for every input, and leaves each argument as it was: the table of math/bits is tied to the program's text.
 Conditions: none of its own. -/
namespace Go.Proofs.YtalhpbilkhdfhaaDoor
open Go Go.ChangeShapes Go.WideShapes Go.RowKit GFl

set_option maxRecDepth 100000 in
theorem roundTurned_lifted (os : Os) (started : os.Started) (H : Type) (enc : TypeId × Value → H) :
    ReturnsInHanded {} Tryd.checked os 3 .any (fun w args => (Rows.roundTurnedSpec.pre enc Tryd.prog Tryd.f3 [] false w args ∧ laidMet Tryd.prog laidL w) ∧ sizedMet enc Tryd.prog Tryd.f3 (OpenSpec.ofChange Rows.roundTurnedSpec) false w args) (Rows.roundTurnedSpec.post enc Tryd.prog Tryd.f3 false true false false) := by
  refine returnsInHanded_of_change_and (C := Tryd.checked) (X := fun w _ => laidMet Tryd.prog laidL w) (fun _ _ _ hh h => h.of_heap hh) Tryd.own started (by kernel_rfl) Tryd.func3
    (ChangeSpec.witness_at (enc := enc) (C := Tryd.checked) (os := os) (X := fun w _ => laidMet Tryd.prog laidL w) false (laidWorld os) #[.float .f64 0, .float .f64 0, .float .f64 0, .int .i8 0] 8 rfl (by kernel_rfl) (by kernel_rfl) (by kernel_rfl) (by kernel_rfl) (by kernel_rfl) (laidWorld_met os _)) ?_
  intro W base args ds gs before hval0 hW _ hsz hL _
  have hval : ∀ (j : Nat) t v, Tryd.f3.params[j]? = some t → args[j]? = some v → Value.okWide Tryd.prog W .any base t v := hval0
  have hW' := hW
  obtain ⟨p, q, hA0, hV0, rfl, hfz, hnd⟩ := hW
  have hA : DataW.TrodAll enc Tryd.prog W 0 (fun _ => true) true Tryd.f3.params.toList args.toList ds p := hA0
  have hV : DataW.TrodVars enc Tryd.prog W (fun _ => true) [] gs q := hV0
  rw [Tryd.params3] at hA hval
  obtain ⟨v0, v1, v2, v3, d0, d1, d2, d3, p0, p1, p2, p3, rfl, rfl, rfl, h0, h1, h2, h3⟩ := trodAll_four hA
  obtain ⟨x0, rfl, rfl, rfl, wx0⟩ := open_float Tryd.underlying22 (hval 0 22 v0 rfl rfl) h0
  obtain ⟨x1, rfl, rfl, rfl, wx1⟩ := open_float Tryd.underlying22 (hval 1 22 v1 rfl rfl) h1
  obtain ⟨x2, rfl, rfl, rfl, wx2⟩ := open_float Tryd.underlying22 (hval 2 22 v2 rfl rfl) h2
  obtain ⟨x3, rfl, rfl, rfl, wx3⟩ := open_int Tryd.underlying24 (hval 3 24 v3 rfl rfl) h3
  have hT := tab_of_laid hL
  obtain ⟨rfl, rfl⟩ : gs = [] ∧ q = [] := by
    cases gs with
    | nil => exact ⟨rfl, hV⟩
    | cons g r => exact absurd hV (by intro h; cases h)
  have e1 : Rows.roundTurnedSpec.fn H ([.lit (.float .f64 x0), .lit (.float .f64 x1), .lit (.float .f64 x2), .lit (.int .i8 x3)] ++ []) = { results := [.lit (.bool true)], args := [.lit (.float .f64 x0), .lit (.float .f64 x1), .lit (.float .f64 x2), .lit (.int .i8 x3)] } := by simp [Rows.roundTurnedSpec]
  refine (roundTurned_c x0 x1 x2 x3 (w64_of wx0) (w64_of wx1) (w64_of wx2)  W hT).mono fun e W' ⟨he, hb⟩ => ?_
  subst he
  refine ⟨_, rfl, _, _, _, [], [], [], hW', ?_, ?_, ?_, hb.frame _, fun h => by cases h⟩
  · rw [e1]; exact trodAll_mk1 (shut_bool Tryd.underlying4 true)
  · rw [e1]; exact trodAll_mk4 (shut_float Tryd.underlying22 wx0) (shut_float Tryd.underlying22 wx1) (shut_float Tryd.underlying22 wx2) (shut_int Tryd.underlying24 wx3)
  · rw [e1]; rfl

theorem roundTurned_holds : Rows.RoundTurnedSaid :=
  OpenClaim.holds_of_wide 3 Tryd.f3 rfl rfl rfl rfl rfl rfl rfl ⟨rfl, rfl, rfl, rfl, rfl⟩ rfl rfl rfl rfl rfl (by kernel_rfl) Tryd.func3 (by kernel_rfl)
    (of_decide_eq_true (by kernel_rfl)) (by unfold Func.isWrapper; rw [if_neg (of_decide_eq_false (by kernel_rfl))]; exact ⟨rfl, rfl⟩)
    (fun os started H enc _ => roundTurned_lifted os started H enc)

theorem roundTurned_card_holds : Rows.RoundTurnedCardSaid :=
  Claim7.holds_tied_plain_at .later [] [.data] true Rows.roundTurnedCard.stood.harness false
    roundTurned_holds (fun _ h => by cases h) (by kernel_rfl) (fun _ h => by cases h) roundTurned_row_tie rfl ⟨rfl, rfl⟩ (by kernel_rfl) rfl
    (fun f fn hf hfn => by
      obtain rfl : f = 3 := Option.some.inj ((show Tryd.prog.funcNamed "girder/girderlaw03.RoundTurned" = some 3 by kernel_rfl).symm.trans hf) |>.symm
      obtain rfl : fn = Tryd.f3 := (Option.some.inj (Tryd.func3.symm.trans hfn)).symm
      exact ⟨by kernel_rfl, no_standIn Tryd.params3 (by kernel_rfl)⟩)
    (by kernel_rfl)
#print axioms roundTurned_card_holds
end Go.Proofs.YtalhpbilkhdfhaaDoor

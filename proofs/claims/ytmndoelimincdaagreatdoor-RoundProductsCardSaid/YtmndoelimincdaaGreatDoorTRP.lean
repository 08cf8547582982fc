import Derived.Test.YtmndoelimincdaaGreatDoorTRPu
import Derived.Test.YtmndoelimincdaaGreatDoorCards
import Derived.Test.YtmndoelimincdaaGreatDoorTie
import Derived.SevenTiedAt
/- girder/girderlaw03.RoundProducts answers true for every input, and leaves each argument as it was: the table of math/bits is tied to the program's text.
 Conditions: none of its own. -/
namespace Go.Proofs.YtmndoelimincdaaGreatDoor
open Go Go.ChangeShapes Go.WideShapes Go.RowKit GFl

set_option maxRecDepth 100000 in
theorem roundProducts_lifted (os : Os) (started : os.Started) (H : Type) (enc : TypeId × Value → H) :
    ReturnsInHanded {} Tryz.checked os 5 .any (fun w args => (Rows.roundProductsSpec.pre enc Tryz.prog Tryz.f5 [] false w args ∧ laidMet Tryz.prog laidL w) ∧ sizedMet enc Tryz.prog Tryz.f5 (OpenSpec.ofChange Rows.roundProductsSpec) false w args) (Rows.roundProductsSpec.post enc Tryz.prog Tryz.f5 false true false false) := by
  refine returnsInHanded_of_change_and (C := Tryz.checked) (X := fun w _ => laidMet Tryz.prog laidL w) (fun _ _ _ hh h => h.of_heap hh) Tryz.own started (by kernel_rfl) Tryz.func5
    (ChangeSpec.witness_at (enc := enc) (C := Tryz.checked) (os := os) (X := fun w _ => laidMet Tryz.prog laidL w) false (laidWorld os) #[.float .f64 0, .float .f64 0, .int .i8 0] 8 rfl (by kernel_rfl) (by kernel_rfl) (by kernel_rfl) (by kernel_rfl) (by kernel_rfl) (laidWorld_met os _)) ?_
  intro W base args ds gs before hval0 hW _ hsz hL _
  have hval : ∀ (j : Nat) t v, Tryz.f5.params[j]? = some t → args[j]? = some v → Value.okWide Tryz.prog W .any base t v := hval0
  have hW' := hW
  obtain ⟨p, q, hA0, hV0, rfl, hfz, hnd⟩ := hW
  have hA : DataW.TrodAll enc Tryz.prog W 0 (fun _ => true) true Tryz.f5.params.toList args.toList ds p := hA0
  have hV : DataW.TrodVars enc Tryz.prog W (fun _ => true) [] gs q := hV0
  rw [Tryz.params5] at hA hval
  obtain ⟨v0, v1, v2, d0, d1, d2, p0, p1, p2, rfl, rfl, rfl, h0, h1, h2⟩ := trodAll_three hA
  obtain ⟨x0, rfl, rfl, rfl, wx0⟩ := open_float Tryz.underlying22 (hval 0 22 v0 rfl rfl) h0
  obtain ⟨x1, rfl, rfl, rfl, wx1⟩ := open_float Tryz.underlying22 (hval 1 22 v1 rfl rfl) h1
  obtain ⟨x2, rfl, rfl, rfl, wx2⟩ := open_int Tryz.underlying24 (hval 2 24 v2 rfl rfl) h2
  have hT := tab_of_laid hL
  obtain ⟨rfl, rfl⟩ : gs = [] ∧ q = [] := by
    cases gs with
    | nil => exact ⟨rfl, hV⟩
    | cons g r => exact absurd hV (by intro h; cases h)
  have e1 : Rows.roundProductsSpec.fn H ([.lit (.float .f64 x0), .lit (.float .f64 x1), .lit (.int .i8 x2)] ++ []) = { results := [.lit (.bool true)], args := [.lit (.float .f64 x0), .lit (.float .f64 x1), .lit (.int .i8 x2)] } := by simp [Rows.roundProductsSpec]
  refine (roundProducts_r x0 x1 x2 (w64_of wx0) (w64_of wx1)  W hT).mono fun e W' ⟨he, hb⟩ => ?_
  subst he
  refine ⟨_, rfl, _, _, _, [], [], [], hW', ?_, ?_, ?_, hb.frame _, fun h => by cases h⟩
  · rw [e1]; exact trodAll_mk1 (shut_bool Tryz.underlying4 true)
  · rw [e1]; exact trodAll_mk3 (shut_float Tryz.underlying22 wx0) (shut_float Tryz.underlying22 wx1) (shut_int Tryz.underlying24 wx2)
  · rw [e1]; rfl

theorem roundProducts_holds : Rows.RoundProductsSaid :=
  OpenClaim.holds_of_wide 5 Tryz.f5 rfl rfl rfl rfl rfl rfl rfl ⟨rfl, rfl, rfl, rfl, rfl⟩ rfl rfl rfl rfl rfl (by kernel_rfl) Tryz.func5 (by kernel_rfl)
    (of_decide_eq_true (by kernel_rfl)) (by unfold Func.isWrapper; rw [if_neg (of_decide_eq_false (by kernel_rfl))]; exact ⟨rfl, rfl⟩)
    (fun os started H enc _ => roundProducts_lifted os started H enc)

theorem roundProducts_card_holds : Rows.RoundProductsCardSaid :=
  Claim7.holds_tied_plain_at .later [] [.data] true Rows.roundProductsCard.stood.harness false
    roundProducts_holds (fun _ h => by cases h) (by kernel_rfl) (fun _ h => by cases h) roundProducts_row_tie rfl ⟨rfl, rfl⟩ (by kernel_rfl) rfl
    (fun f fn hf hfn => by
      obtain rfl : f = 5 := Option.some.inj ((show Tryz.prog.funcNamed "girder/girderlaw03.RoundProducts" = some 5 by kernel_rfl).symm.trans hf) |>.symm
      obtain rfl : fn = Tryz.f5 := (Option.some.inj (Tryz.func5.symm.trans hfn)).symm
      exact ⟨by kernel_rfl, no_standIn Tryz.params5 (by kernel_rfl)⟩)
    (by kernel_rfl)
#print axioms roundProducts_card_holds
end Go.Proofs.YtmndoelimincdaaGreatDoor

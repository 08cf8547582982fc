/- girder/girderlaw01.BitsMakes answers true for every input, and leaves each argument as it was: the table of math/bits is tied to the program's text.
 Conditions: none of its own. -/
import Derived.Test.YtddleibffkaenaaDoorLMakes
import Derived.Test.YtddleibffkaenaaDoorRP
import Derived.Test.YtddleibffkaenaaDoorCards
import Derived.Test.YtddleibffkaenaaDoorTie
import Derived.SevenTiedAt
namespace Go.Proofs.YtddleibffkaenaaDoor
open Go Go.ChangeShapes Go.WideShapes Go.RowKit GFl

set_option maxRecDepth 100000 in
theorem bitsMakes_lifted (os : Os) (started : os.Started) (H : Type) (enc : TypeId × Value → H) :
    ReturnsInHanded {} Tryd.checked os 5 .any (fun w args => (Rows.bitsMakesSpec.pre enc Tryd.prog Tryd.f5 [] false w args ∧ laidMet Tryd.prog laidL w) ∧ sizedMet enc Tryd.prog Tryd.f5 (OpenSpec.ofChange Rows.bitsMakesSpec) false w args) (Rows.bitsMakesSpec.post enc Tryd.prog Tryd.f5 false true false false) := by
  refine returnsInHanded_of_change_and (C := Tryd.checked) (X := fun w _ => laidMet Tryd.prog laidL w) (fun _ _ _ hh h => h.of_heap hh) Tryd.own started (by kernel_rfl) Tryd.func5
    (ChangeSpec.witness_at (enc := enc) (C := Tryd.checked) (os := os) (X := fun w _ => laidMet Tryd.prog laidL w) false (laidWorld os) #[.agg #[.bool false, .int .u64 0, .int .i64 0], .int .i64 0] 8 rfl (by kernel_rfl) (by kernel_rfl) (by kernel_rfl) (by kernel_rfl) (by kernel_rfl) (laidWorld_met os _)) ?_
  intro W base args ds gs before hval0 hW _ _ hL _
  have hval : ∀ (j : Nat) t v, Tryd.f5.params[j]? = some t → args[j]? = some v → Value.okWide Tryd.prog W .any base t v := hval0
  have hW' := hW
  obtain ⟨p, q, hA0, hV0, rfl, hfz, hnd⟩ := hW
  have hA : DataW.TrodAll enc Tryd.prog W 0 (fun _ => true) true Tryd.f5.params.toList args.toList ds p := hA0
  have hV : DataW.TrodVars enc Tryd.prog W (fun _ => true) [] gs q := hV0
  rw [Tryd.params5] at hA hval
  obtain ⟨v0, v1, d0, d1, p0, p1, rfl, rfl, rfl, h0, h1⟩ := trodAll_two hA
  obtain ⟨g0, f0, x0, rfl, rfl, rfl, wx0⟩ := open_parts (hval 0 25 v0 rfl rfl) h0
  obtain ⟨x1, rfl, rfl, rfl, wx1⟩ := open_int Tryd.underlying2 (hval 1 2 v1 rfl rfl) h1
  have hT := tab_of_laid hL
  obtain ⟨rfl, rfl⟩ : gs = [] ∧ q = [] := by
    cases gs with
    | nil => exact ⟨rfl, hV⟩
    | cons g r => exact absurd hV (by intro h; cases h)
  have e1 : Rows.bitsMakesSpec.fn H ([partsD H g0 f0 x0, .lit (.int .i64 x1)] ++ []) = { results := [.lit (.bool true)], args := [partsD H g0 f0 x0, .lit (.int .i64 x1)] } := by simp [Rows.bitsMakesSpec]
  refine (bitsMakes_c g0 f0 x0 x1 wx0.1 wx0.2.1 wx0.2.2 (i64_of wx1).1 (i64_of wx1).2 W hT).mono fun e W' ⟨he, hb⟩ => ?_
  subst he
  refine ⟨_, rfl, _, _, _, [], [], [], hW', ?_, ?_, ?_, hb.frame _, fun h => by cases h⟩
  · rw [e1]; exact trodAll_mk1 (shut_bool Tryd.underlying4 true)
  · rw [e1]; exact trodAll_mk2 (shut_parts wx0) (shut_int Tryd.underlying2 wx1)
  · rw [e1]; rfl

theorem bitsMakes_holds : Rows.BitsMakesSaid :=
  OpenClaim.holds_of_wide 5 Tryd.f5 rfl rfl rfl rfl rfl rfl rfl ⟨rfl, rfl, rfl, rfl, rfl⟩ rfl rfl rfl rfl rfl (by kernel_rfl) Tryd.func5 (by kernel_rfl)
    (of_decide_eq_true (by kernel_rfl)) (by unfold Func.isWrapper; rw [if_neg (of_decide_eq_false (by kernel_rfl))]; exact ⟨rfl, rfl⟩)
    (fun os started H enc _ => bitsMakes_lifted os started H enc)

theorem bitsMakes_card_holds : Rows.BitsMakesCardSaid :=
  Claim7.holds_tied_plain_at .later [] [.data] true Rows.bitsMakesCard.stood.harness false
    bitsMakes_holds (fun _ h => by cases h) (by kernel_rfl) (fun _ h => by cases h) bitsMakes_row_tie rfl ⟨rfl, rfl⟩ (by kernel_rfl) rfl
    (fun f fn hf hfn => by
      obtain rfl : f = 5 := Option.some.inj ((show Tryd.prog.funcNamed "girder/girderlaw01.BitsMakes" = some 5 by kernel_rfl).symm.trans hf) |>.symm
      obtain rfl : fn = Tryd.f5 := (Option.some.inj (Tryd.func5.symm.trans hfn)).symm
      exact ⟨by kernel_rfl, no_standIn Tryd.params5 (by kernel_rfl)⟩)
    (by kernel_rfl)
#print axioms bitsMakes_card_holds
end Go.Proofs.YtddleibffkaenaaDoor

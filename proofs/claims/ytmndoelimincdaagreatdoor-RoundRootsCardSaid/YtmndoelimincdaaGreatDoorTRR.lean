import Derived.Test.YtmndoelimincdaaGreatDoorTRRu
import Derived.Test.YtmndoelimincdaaGreatDoorCards
import Derived.Test.YtmndoelimincdaaGreatDoorTie
import Derived.SevenTiedAt
/- girder/girderlaw03.RoundRoots answers true for every input, and leaves each argument as it was: the table of math/bits is tied to the program's text.
 Conditions: none of its own. -/
namespace Go.Proofs.YtmndoelimincdaaGreatDoor
open Go Go.ChangeShapes Go.WideShapes Go.RowKit GFl

set_option maxRecDepth 100000 in
theorem roundRoots_lifted (os : Os) (started : os.Started) (H : Type) (enc : TypeId × Value → H) :
    ReturnsInHanded {} Tryz.checked os 3 .any (fun w args => (Rows.roundRootsSpec.pre enc Tryz.prog Tryz.f3 [] false w args ∧ laidMet Tryz.prog laidL w) ∧ sizedMet enc Tryz.prog Tryz.f3 (OpenSpec.ofChange Rows.roundRootsSpec) false w args) (Rows.roundRootsSpec.post enc Tryz.prog Tryz.f3 false true false false) := by
  refine returnsInHanded_of_change_and (C := Tryz.checked) (X := fun w _ => laidMet Tryz.prog laidL w) (fun _ _ _ hh h => h.of_heap hh) Tryz.own started (by kernel_rfl) Tryz.func3
    (ChangeSpec.witness_at (enc := enc) (C := Tryz.checked) (os := os) (X := fun w _ => laidMet Tryz.prog laidL w) false (laidWorld os) #[.float .f64 0, .int .i64 0, .int .i8 0] 8 rfl (by kernel_rfl) (by kernel_rfl) (by kernel_rfl) (by kernel_rfl) (by kernel_rfl) (laidWorld_met os _)) ?_
  intro W base args ds gs before hval0 hW _ hsz hL _
  have hval : ∀ (j : Nat) t v, Tryz.f3.params[j]? = some t → args[j]? = some v → Value.okWide Tryz.prog W .any base t v := hval0
  have hW' := hW
  obtain ⟨p, q, hA0, hV0, rfl, hfz, hnd⟩ := hW
  have hA : DataW.TrodAll enc Tryz.prog W 0 (fun _ => true) true Tryz.f3.params.toList args.toList ds p := hA0
  have hV : DataW.TrodVars enc Tryz.prog W (fun _ => true) [] gs q := hV0
  rw [Tryz.params3] at hA hval
  obtain ⟨v0, v1, v2, d0, d1, d2, p0, p1, p2, rfl, rfl, rfl, h0, h1, h2⟩ := trodAll_three hA
  obtain ⟨x0, rfl, rfl, rfl, wx0⟩ := open_float Tryz.underlying22 (hval 0 22 v0 rfl rfl) h0
  obtain ⟨x1, rfl, rfl, rfl, wx1⟩ := open_int Tryz.underlying2 (hval 1 2 v1 rfl rfl) h1
  obtain ⟨x2, rfl, rfl, rfl, wx2⟩ := open_int Tryz.underlying24 (hval 2 24 v2 rfl rfl) h2
  have hT := tab_of_laid hL
  obtain ⟨rfl, rfl⟩ : gs = [] ∧ q = [] := by
    cases gs with
    | nil => exact ⟨rfl, hV⟩
    | cons g r => exact absurd hV (by intro h; cases h)
  have e1 : Rows.roundRootsSpec.fn H ([.lit (.float .f64 x0), .lit (.int .i64 x1), .lit (.int .i8 x2)] ++ []) = { results := [.lit (.bool true)], args := [.lit (.float .f64 x0), .lit (.int .i64 x1), .lit (.int .i8 x2)] } := by simp [Rows.roundRootsSpec]
  refine (roundRoots_r x0 x1 x2 (w64_of wx0) (i64_of wx1).1 (i64_of wx1).2  W hT).mono fun e W' ⟨he, hb⟩ => ?_
  subst he
  refine ⟨_, rfl, _, _, _, [], [], [], hW', ?_, ?_, ?_, hb.frame _, fun h => by cases h⟩
  · rw [e1]; exact trodAll_mk1 (shut_bool Tryz.underlying4 true)
  · rw [e1]; exact trodAll_mk3 (shut_float Tryz.underlying22 wx0) (shut_int Tryz.underlying2 wx1) (shut_int Tryz.underlying24 wx2)
  · rw [e1]; rfl

theorem roundRoots_holds : Rows.RoundRootsSaid :=
  OpenClaim.holds_of_wide 3 Tryz.f3 rfl rfl rfl rfl rfl rfl rfl ⟨rfl, rfl, rfl, rfl, rfl⟩ rfl rfl rfl rfl rfl (by kernel_rfl) Tryz.func3 (by kernel_rfl)
    (of_decide_eq_true (by kernel_rfl)) (by unfold Func.isWrapper; rw [if_neg (of_decide_eq_false (by kernel_rfl))]; exact ⟨rfl, rfl⟩)
    (fun os started H enc _ => roundRoots_lifted os started H enc)

theorem roundRoots_card_holds : Rows.RoundRootsCardSaid :=
  Claim7.holds_tied_plain_at .later [] [.data] true Rows.roundRootsCard.stood.harness false
    roundRoots_holds (fun _ h => by cases h) (by kernel_rfl) (fun _ h => by cases h) roundRoots_row_tie rfl ⟨rfl, rfl⟩ (by kernel_rfl) rfl
    (fun f fn hf hfn => by
      obtain rfl : f = 3 := Option.some.inj ((show Tryz.prog.funcNamed "girder/girderlaw03.RoundRoots" = some 3 by kernel_rfl).symm.trans hf) |>.symm
      obtain rfl : fn = Tryz.f3 := (Option.some.inj (Tryz.func3.symm.trans hfn)).symm
      exact ⟨by kernel_rfl, no_standIn Tryz.params3 (by kernel_rfl)⟩)
    (by kernel_rfl)
#print axioms roundRoots_card_holds
end Go.Proofs.YtmndoelimincdaaGreatDoor

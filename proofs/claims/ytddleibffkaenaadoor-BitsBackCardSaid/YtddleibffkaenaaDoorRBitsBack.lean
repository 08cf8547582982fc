/- girder/girderlaw01.BitsBack answers true for every input, and leaves each argument as it was: the table of math/bits is tied to the program's text.
 Conditions: none of its own. -/
import Derived.Test.YtddleibffkaenaaDoorLBack
import Derived.Test.YtddleibffkaenaaDoorRP
import Derived.Test.YtddleibffkaenaaDoorCards
import Derived.Test.YtddleibffkaenaaDoorTie
import Derived.SevenTiedAt
namespace Go.Proofs.YtddleibffkaenaaDoor
open Go Go.ChangeShapes Go.WideShapes Go.RowKit GFl

theorem bitsBack_r (x : Nat) (place : Int) (ng : Bool) (fr : Nat) (ex : Int) (hx : W64 x) (hp1 : -9223372036854775808 ≤ place) (hp2 : place ≤ 9223372036854775807) (hf : fr < 18446744073709551616) (he1 : -9223372036854775808 ≤ ex) (he2 : ex ≤ 9223372036854775807) (w : World) (hT : Tab w) :
    Calls Tryd.prog 6 #[.float .f64 x, .int .i64 place, .agg #[.bool ng, .int .u64 fr, .int .i64 ex]] w fun e w' => e = .returned (.bool true) ∧ Below w.heap.size w w' :=
  bitsBack_c x hx place hp1 hp2 ng fr ex hf he1 he2 w hT

set_option maxRecDepth 100000 in
theorem bitsBack_lifted (os : Os) (started : os.Started) (H : Type) (enc : TypeId × Value → H) :
    ReturnsInHanded {} Tryd.checked os 6 .any (fun w args => (Rows.bitsBackSpec.pre enc Tryd.prog Tryd.f6 [] false w args ∧ laidMet Tryd.prog laidL w) ∧ sizedMet enc Tryd.prog Tryd.f6 (OpenSpec.ofChange Rows.bitsBackSpec) false w args) (Rows.bitsBackSpec.post enc Tryd.prog Tryd.f6 false true false false) := by
  refine returnsInHanded_of_change_and (C := Tryd.checked) (X := fun w _ => laidMet Tryd.prog laidL w) (fun _ _ _ hh h => h.of_heap hh) Tryd.own started (by kernel_rfl) Tryd.func6
    (ChangeSpec.witness_at (enc := enc) (C := Tryd.checked) (os := os) (X := fun w _ => laidMet Tryd.prog laidL w) false (laidWorld os) #[.float .f64 0, .int .i64 0, .agg #[.bool false, .int .u64 0, .int .i64 0]] 8 rfl (by kernel_rfl) (by kernel_rfl) (by kernel_rfl) (by kernel_rfl) (by kernel_rfl) (laidWorld_met os _)) ?_
  intro W base args ds gs before hval0 hW _ _ hL _
  have hval : ∀ (j : Nat) t v, Tryd.f6.params[j]? = some t → args[j]? = some v → Value.okWide Tryd.prog W .any base t v := hval0
  have hW' := hW
  obtain ⟨p, q, hA0, hV0, rfl, hfz, hnd⟩ := hW
  have hA : DataW.TrodAll enc Tryd.prog W 0 (fun _ => true) true Tryd.f6.params.toList args.toList ds p := hA0
  have hV : DataW.TrodVars enc Tryd.prog W (fun _ => true) [] gs q := hV0
  rw [Tryd.params6] at hA hval
  obtain ⟨v0, v1, v2, d0, d1, d2, p0, p1, p2, rfl, rfl, rfl, h0, h1, h2⟩ := trodAll_three hA
  obtain ⟨x0, rfl, rfl, rfl, wx0⟩ := open_float Tryd.underlying22 (hval 0 22 v0 rfl rfl) h0
  obtain ⟨x1, rfl, rfl, rfl, wx1⟩ := open_int Tryd.underlying2 (hval 1 2 v1 rfl rfl) h1
  obtain ⟨g2, f2, x2, rfl, rfl, rfl, wx2⟩ := open_parts (hval 2 25 v2 rfl rfl) h2
  have hT := tab_of_laid hL
  obtain ⟨rfl, rfl⟩ : gs = [] ∧ q = [] := by
    cases gs with
    | nil => exact ⟨rfl, hV⟩
    | cons g r => exact absurd hV (by intro h; cases h)
  have e1 : Rows.bitsBackSpec.fn H ([.lit (.float .f64 x0), .lit (.int .i64 x1), partsD H g2 f2 x2] ++ []) = { results := [.lit (.bool true)], args := [.lit (.float .f64 x0), .lit (.int .i64 x1), partsD H g2 f2 x2] } := by simp [Rows.bitsBackSpec]
  refine (bitsBack_r x0 x1 g2 f2 x2 (w64_of wx0) (i64_of wx1).1 (i64_of wx1).2 wx2.1 wx2.2.1 wx2.2.2 W hT).mono fun e W' ⟨he, hb⟩ => ?_
  subst he
  refine ⟨_, rfl, _, _, _, [], [], [], hW', ?_, ?_, ?_, hb.frame _, fun h => by cases h⟩
  · rw [e1]; exact trodAll_mk1 (shut_bool Tryd.underlying4 true)
  · rw [e1]; exact trodAll_mk3 (shut_float Tryd.underlying22 wx0) (shut_int Tryd.underlying2 wx1) (shut_parts wx2)
  · rw [e1]; rfl

theorem bitsBack_holds : Rows.BitsBackSaid :=
  OpenClaim.holds_of_wide 6 Tryd.f6 rfl rfl rfl rfl rfl rfl rfl ⟨rfl, rfl, rfl, rfl, rfl⟩ rfl rfl rfl rfl rfl (by kernel_rfl) Tryd.func6 (by kernel_rfl)
    (of_decide_eq_true (by kernel_rfl)) (by unfold Func.isWrapper; rw [if_neg (of_decide_eq_false (by kernel_rfl))]; exact ⟨rfl, rfl⟩)
    (fun os started H enc _ => bitsBack_lifted os started H enc)

theorem bitsBack_card_holds : Rows.BitsBackCardSaid :=
  Claim7.holds_tied_plain_at .later [] [.data] true Rows.bitsBackCard.stood.harness false
    bitsBack_holds (fun _ h => by cases h) (by kernel_rfl) (fun _ h => by cases h) bitsBack_row_tie rfl ⟨rfl, rfl⟩ (by kernel_rfl) rfl
    (fun f fn hf hfn => by
      obtain rfl : f = 6 := Option.some.inj ((show Tryd.prog.funcNamed "girder/girderlaw01.BitsBack" = some 6 by kernel_rfl).symm.trans hf) |>.symm
      obtain rfl : fn = Tryd.f6 := (Option.some.inj (Tryd.func6.symm.trans hfn)).symm
      exact ⟨by kernel_rfl, no_standIn Tryd.params6 (by kernel_rfl)⟩)
    (by kernel_rfl)
#print axioms bitsBack_card_holds
end Go.Proofs.YtddleibffkaenaaDoor

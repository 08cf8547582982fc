import Derived.Test.YtaedkekjekbjmaaGreatDoorFr
import Derived.Test.YtaedkekjekbjmaaGreatDoorCards
import Derived.Test.YtaedkekjekbjmaaGreatDoorTie
import Derived.SevenTiedAt
/- girder/girderlaw17.SturmFinds answers true for every input, and leaves each argument as it was: the table of math/bits is tied to the program's text.
 Conditions: none of its own. -/
namespace Go.Proofs.YtaedkekjekbjmaaGreatDoor
open Go Go.ChangeShapes Go.WideShapes Go.RowKit GFl

set_option maxRecDepth 100000 in
theorem sturmFinds_lifted (os : Os) (started : os.Started) (H : Type) (enc : TypeId × Value → H) :
    ReturnsInHanded {} Tryz.checked os 3 .any (fun w args => (Rows.sturmFindsSpec.pre enc Tryz.prog Tryz.f3 [] false w args ∧ laidMet Tryz.prog laidL w) ∧ sizedMet enc Tryz.prog Tryz.f3 (OpenSpec.ofChange Rows.sturmFindsSpec) false w args) (Rows.sturmFindsSpec.post enc Tryz.prog Tryz.f3 false true false false) := by
  refine returnsInHanded_of_change_and (C := Tryz.checked) (X := fun w _ => laidMet Tryz.prog laidL w) (fun _ _ _ hh h => h.of_heap hh) Tryz.own started (by kernel_rfl) Tryz.func3
    (ChangeSpec.witness_at (enc := enc) (C := Tryz.checked) (os := os) (X := fun w _ => laidMet Tryz.prog laidL w) false (laidWorld os) #[.agg #[.slice none 0 0, .slice none 0 0], .int .i64 0] 8 rfl (by kernel_rfl) (by kernel_rfl) (by kernel_rfl) (by kernel_rfl) (by kernel_rfl) (laidWorld_met os _)) ?_
  intro W base args ds gs before hval0 hW _ hsz hL _
  have hval : ∀ (j : Nat) t v, Tryz.f3.params[j]? = some t → args[j]? = some v → Value.okWide Tryz.prog W .any base t v := hval0
  have hW' := hW
  obtain ⟨p, q, hA0, hV0, rfl, hfz, hnd⟩ := hW
  have hA : DataW.TrodAll enc Tryz.prog W 0 (fun _ => true) true Tryz.f3.params.toList args.toList ds p := hA0
  have hV : DataW.TrodVars enc Tryz.prog W (fun _ => true) [] gs q := hV0
  rw [Tryz.params3] at hA hval
  obtain ⟨v0, v1, d0, d1, p0, p1, rfl, rfl, rfl, h0, h1⟩ := trodAll_two hA
  have k0 := h0
  have lt0 : ∀ x ∈ p0, x.block < W.heap.size := by obtain ⟨m, hm⟩ := h0; exact DataW.trod_lt m _ _ _ hm
  obtain ⟨A0, B0, cA0, cB0, l0, m0, rfl, hl0, hm0, hC0, hD0, wl0, wm0, hN0, hM0, hE0, hF0⟩ := open_lchain (hval 0 24 v0 rfl rfl) h0
  obtain ⟨x1, rfl, rfl, rfl, wx1⟩ := open_int Tryz.underlying3 (hval 1 3 v1 rfl rfl) h1
  obtain ⟨rfl, rfl⟩ : gs = [] ∧ q = [] := by
    cases gs with
    | nil => exact ⟨rfl, hV⟩
    | cons g r => exact absurd hV (by intro h; cases h)
  have e1 : Rows.sturmFindsSpec.fn H ([d0, .lit (.int .i64 x1)] ++ []) = { results := [.lit (.bool true)], args := [d0, .lit (.int .i64 x1)] } := by simp [Rows.sturmFindsSpec]
  refine (sturmFinds_c (W := W) A0 B0 cA0 cB0 l0 m0 x1 hl0 hm0 hC0 hD0 wl0 wm0 hN0 hM0 (lchain_size0 (j:=0) hE0 hsz rfl rfl) (lchain_size1 (j:=0) hF0 hsz rfl rfl) (i64_of wx1).1 (i64_of wx1).2 (tab_of_laid hL)).mono fun e W' ⟨he, hb⟩ => ?_
  subst he
  refine ⟨_, rfl, _, _, _, [], p0 ++ ([]), [], hW', ?_, ?_, ?_, hb.frame _, fun h => by cases h⟩
  · rw [e1]; exact trodAll_mk1 (shut_bool Tryz.underlying4 true)
  · rw [e1]; exact trodAll_mk2 (Below.trod jk_laidOut rs_rec2 rs_row2 k0 hb lt0) (shut_int Tryz.underlying3 wx1)
  · rw [e1]; rfl

theorem sturmFinds_holds : Rows.SturmFindsSaid :=
  OpenClaim.holds_of_wide 3 Tryz.f3 rfl rfl rfl rfl rfl rfl rfl ⟨rfl, rfl, rfl, rfl, rfl⟩ rfl rfl rfl rfl rfl (by kernel_rfl) Tryz.func3 (by kernel_rfl)
    (of_decide_eq_true (by kernel_rfl)) (by unfold Func.isWrapper; rw [if_neg (of_decide_eq_false (by kernel_rfl))]; exact ⟨rfl, rfl⟩)
    (fun os started H enc _ => sturmFinds_lifted os started H enc)

theorem sturmFinds_card_holds : Rows.SturmFindsCardSaid :=
  Claim7.holds_tied_plain_at .later [] [.data] true Rows.sturmFindsCard.stood.harness false
    sturmFinds_holds (fun _ h => by cases h) (by kernel_rfl) (fun _ h => by cases h) sturmFinds_row_tie rfl ⟨rfl, rfl⟩ (by kernel_rfl) rfl
    (fun f fn hf hfn => by
      obtain rfl : f = 3 := Option.some.inj ((show Tryz.prog.funcNamed "girder/girderlaw17.SturmFinds" = some 3 by kernel_rfl).symm.trans hf) |>.symm
      obtain rfl : fn = Tryz.f3 := (Option.some.inj (Tryz.func3.symm.trans hfn)).symm
      exact ⟨by kernel_rfl, no_standIn Tryz.params3 (by kernel_rfl)⟩)
    (by kernel_rfl)
#print axioms sturmFinds_card_holds
end Go.Proofs.YtaedkekjekbjmaaGreatDoor

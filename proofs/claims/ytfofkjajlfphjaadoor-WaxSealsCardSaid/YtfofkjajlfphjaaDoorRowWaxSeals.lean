/- The row of WaxSeals and its tied card, proved: whatever the input, the law returns true and its arguments read as before. Conditions: none beyond the card's own (two package variables are laid as the program's text lays them). -/
import Derived.Test.YtfofkjajlfphjaaDoorRowKitD
import Derived.Test.YtfofkjajlfphjaaDoorWaxC
set_option linter.unusedSimpArgs false
set_option linter.unusedVariables false
namespace Go.Proofs.YtfofkjajlfphjaaDoor
open Go Go.ChangeShapes Go.WideShapes Go.ChangeAt Go.RowKit
set_option maxRecDepth 100000 in
theorem waxSeals_lifted (os : Os) (started : os.Started) (H : Type) (enc : TypeId × Value → H) :
    ReturnsInHanded {} Tryd.checked os 3 .any (fun w args => (Rows.waxSealsSpec.pre enc Tryd.prog Tryd.f3 Rows.waxSealsRow.domain false w args ∧ laidMetH Tryd.prog laidL w) ∧ sizedMet enc Tryd.prog Tryd.f3 (OpenSpec.ofChange Rows.waxSealsSpec) false w args)
      (Rows.waxSealsSpec.post enc Tryd.prog Tryd.f3 false true false false) := by
  refine returnsInHanded_of_change_and (C := Tryd.checked) (X := fun w _ => laidMetH Tryd.prog laidL w) (fun _ _ _ hh h => h.of_heap hh) Tryd.own started (by kernel_rfl) Tryd.func3
    (ChangeSpec.witness_shaped (enc := enc) (C := Tryd.checked) (os := os) (X := fun w _ => laidMetH Tryd.prog laidL w) false (World.laidAll Tryd.prog os laidL) #[.agg ((List.replicate 32 0).map B ++ ((List.replicate 32 0).map B ++ ([B 0, Str []] ++ ((List.replicate 16 0).map B ++ [Value.slice none 0 0])))).toArray, I 0] 10 (World.laidAll_os _ _ _)
      (World.shaped_of_ZipB (by kernel_rfl) (by kernel_rfl)) (by kernel_rfl) (by kernel_rfl) (by kernel_rfl) (laid_met os _)) ?_
  intro W base args ds gs before hval0 hW hcnd _ hL _
  have hval : ∀ (j : Nat) t v, Tryd.f3.params[j]? = some t → args[j]? = some v → Value.okWide Tryd.prog W .any base t v := hval0
  have hW' := hW
  obtain ⟨p, q, hA0, hV, rfl, hfz, hnd⟩ := hW
  have hA : DataW.TrodAll enc Tryd.prog W 0 (fun _ => true) true Tryd.f3.params.toList args.toList ds p := hA0
  rw [Tryd.params3] at hA hval
  obtain ⟨v0, v1, d0, d1, p0, p1, rfl, rfl, rfl, h0, h1⟩ := trodAll_two hA
  obtain ⟨rfl, rfl⟩ := trodVars_none hV
  have hg := glob_of_laid hL
  obtain ⟨hk, mk, name, N, bs, kind, bv, rfl, hk32, mk32, hN, hR, hnl, hbl⟩ := open_letter (hval 0 28 v0 rfl rfl) h0
  obtain ⟨at_, rfl, _, _, hwf1⟩ := open_int Tryd.underlying3 (hval 1 3 v1 rfl rfl) h1
  refine row_true (P := Tryd.prog) (b := 4) hW' Tryd.laidOut (by kernel_rfl) rfl rfl Tryd.underlying4 ?_ (waxSeals_spec hk32 mk32 hN (Ro.nil hR) (Ro.nil hg) hnl hbl at_)
  intro ds' hl
  match ds', hl with
  | [a, b], _ => exact ⟨rfl, rfl, rfl⟩
theorem waxSeals_said : Rows.WaxSealsSaid :=
  OpenClaim.holds_of_wide 3 Tryd.f3 rfl rfl rfl rfl rfl rfl rfl ⟨rfl, rfl, rfl, rfl, rfl⟩ rfl rfl rfl rfl rfl (by kernel_rfl) Tryd.func3 (by kernel_rfl)
    (of_decide_eq_true (by kernel_rfl)) (by unfold Func.isWrapper; first | (rw [if_pos (by decide +kernel)]; kernel_rfl) | (rw [if_neg (by decide +kernel)]; exact ⟨rfl, rfl⟩))
    (fun os started H enc _ => waxSeals_lifted os started H enc)
theorem waxSeals_holds : Rows.WaxSealsCardSaid :=
  Claim7.holds_tied_plain_at .later [] [.data, .data] true (true, "77f3ccb3c5c36ad29df675c2a6a6cc35587ebc85bd5d164c0302a0a830305f7a") false waxSeals_said (fun _ h => by cases h) (by kernel_rfl) (fun _ h => by cases h) waxSeals_row_tie rfl ⟨rfl, rfl⟩ (by kernel_rfl) rfl
    (fun f fn hf hfn => by
      obtain rfl : f = 3 := Option.some.inj ((show Tryd.prog.funcNamed "hypogeum/hypogeumlaw10.WaxSeals" = some 3 by kernel_rfl).symm.trans hf) |>.symm
      obtain rfl : fn = Tryd.f3 := (Option.some.inj (Tryd.func3.symm.trans hfn)).symm
      exact ⟨by kernel_rfl, fun j t ht => by
        rw [Tryd.params3] at ht
        have hm : t ∈ [28, 3] := by simpa using Array.mem_of_getElem? ht
        have hall : ([28, 3].all fun u => !Tryd.prog.wantsStandIn u) = true := by kernel_rfl
        exact (show Tryd.prog.wantsStandIn t = false by simpa using List.all_eq_true.1 hall t hm)⟩)
    (by kernel_rfl)
end Go.Proofs.YtfofkjajlfphjaaDoor

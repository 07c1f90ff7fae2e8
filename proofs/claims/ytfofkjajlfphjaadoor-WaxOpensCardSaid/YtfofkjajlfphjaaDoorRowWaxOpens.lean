/- The row of WaxOpens and its tied card, proved: whatever the input, the law returns true and its arguments read as before. Conditions: none beyond the card's own (two package variables are laid as the program's text lays them). -/
import Derived.Test.YtfofkjajlfphjaaDoorRowKitD
import Derived.Test.YtfofkjajlfphjaaDoorWaxC
set_option linter.unusedSimpArgs false
set_option linter.unusedVariables false
namespace Go.Proofs.YtfofkjajlfphjaaDoor
open Go Go.ChangeShapes Go.WideShapes Go.ChangeAt Go.RowKit
set_option maxRecDepth 100000 in
theorem waxOpens_lifted (os : Os) (started : os.Started) (H : Type) (enc : TypeId × Value → H) :
    ReturnsInHanded {} Tryd.checked os 4 .any (fun w args => (Rows.waxOpensSpec.pre enc Tryd.prog Tryd.f4 Rows.waxOpensRow.domain false w args ∧ laidMetH Tryd.prog laidL w) ∧ sizedMet enc Tryd.prog Tryd.f4 (OpenSpec.ofChange Rows.waxOpensSpec) false w args)
      (Rows.waxOpensSpec.post enc Tryd.prog Tryd.f4 false true false false) := by
  refine returnsInHanded_of_change_and (C := Tryd.checked) (X := fun w _ => laidMetH Tryd.prog laidL w) (fun _ _ _ hh h => h.of_heap hh) Tryd.own started (by kernel_rfl) Tryd.func4
    (ChangeSpec.witness_shaped (enc := enc) (C := Tryd.checked) (os := os) (X := fun w _ => laidMetH Tryd.prog laidL w) false (World.laidAll Tryd.prog os laidL) #[.agg ((List.replicate 32 0).map B ++ ((List.replicate 32 0).map B ++ ([B 0, Str []] ++ ((List.replicate 16 0).map B ++ [Value.slice none 0 0])))).toArray] 10 (World.laidAll_os _ _ _)
      (World.shaped_of_ZipB (by kernel_rfl) (by kernel_rfl)) (by kernel_rfl) (by kernel_rfl) (by kernel_rfl) (laid_met os _)) ?_
  intro W base args ds gs before hval0 hW hcnd _ hL _
  have hval : ∀ (j : Nat) t v, Tryd.f4.params[j]? = some t → args[j]? = some v → Value.okWide Tryd.prog W .any base t v := hval0
  have hW' := hW
  obtain ⟨p, q, hA0, hV, rfl, hfz, hnd⟩ := hW
  have hA : DataW.TrodAll enc Tryd.prog W 0 (fun _ => true) true Tryd.f4.params.toList args.toList ds p := hA0
  rw [Tryd.params4] at hA hval
  obtain ⟨v0, d0, rfl, rfl, h0⟩ := trodAll_one hA
  obtain ⟨rfl, rfl⟩ := trodVars_none hV
  have hg := glob_of_laid hL
  obtain ⟨hk, mk, name, N, bs, kind, bv, rfl, hk32, mk32, hN, hR, hnl, hbl⟩ := open_letter (hval 0 28 v0 rfl rfl) h0
  refine row_true (P := Tryd.prog) (b := 4) hW' Tryd.laidOut (by kernel_rfl) rfl rfl Tryd.underlying4 ?_ (waxOpens_spec hk32 mk32 hN (Ro.nil hR) (Ro.nil hg) hnl hbl)
  intro ds' hl
  match ds', hl with
  | [a], _ => exact ⟨rfl, rfl, rfl⟩
theorem waxOpens_said : Rows.WaxOpensSaid :=
  OpenClaim.holds_of_wide 4 Tryd.f4 rfl rfl rfl rfl rfl rfl rfl ⟨rfl, rfl, rfl, rfl, rfl⟩ rfl rfl rfl rfl rfl (by kernel_rfl) Tryd.func4 (by kernel_rfl)
    (of_decide_eq_true (by kernel_rfl)) (by unfold Func.isWrapper; first | (rw [if_pos (by decide +kernel)]; kernel_rfl) | (rw [if_neg (by decide +kernel)]; exact ⟨rfl, rfl⟩))
    (fun os started H enc _ => waxOpens_lifted os started H enc)
theorem waxOpens_holds : Rows.WaxOpensCardSaid :=
  Claim7.holds_tied_plain_at .later [] [.data, .data] true (true, "77f3ccb3c5c36ad29df675c2a6a6cc35587ebc85bd5d164c0302a0a830305f7a") false waxOpens_said (fun _ h => by cases h) (by kernel_rfl) (fun _ h => by cases h) waxOpens_row_tie rfl ⟨rfl, rfl⟩ (by kernel_rfl) rfl
    (fun f fn hf hfn => by
      obtain rfl : f = 4 := Option.some.inj ((show Tryd.prog.funcNamed "hypogeum/hypogeumlaw10.WaxOpens" = some 4 by kernel_rfl).symm.trans hf) |>.symm
      obtain rfl : fn = Tryd.f4 := (Option.some.inj (Tryd.func4.symm.trans hfn)).symm
      exact ⟨by kernel_rfl, fun j t ht => by
        rw [Tryd.params4] at ht
        have hm : t ∈ [28] := by simpa using Array.mem_of_getElem? ht
        have hall : ([28].all fun u => !Tryd.prog.wantsStandIn u) = true := by kernel_rfl
        exact (show Tryd.prog.wantsStandIn t = false by simpa using List.all_eq_true.1 hall t hm)⟩)
    (by kernel_rfl)
end Go.Proofs.YtfofkjajlfphjaaDoor

/- The row of KeyHands and its tied card, proved: whatever the input, the law returns true and its arguments read as before. Conditions: none beyond the card's own (two package variables are laid as the program's text lays them). -/
import Derived.Test.YtfofkjajlfphjaaDoorRowKitE
import Derived.Test.YtfofkjajlfphjaaDoorKeyO
set_option linter.unusedSimpArgs false
set_option linter.unusedVariables false
namespace Go.Proofs.YtfofkjajlfphjaaDoor
open Go Go.ChangeShapes Go.WideShapes Go.ChangeAt Go.RowKit
set_option maxRecDepth 100000 in
theorem keyHands_lifted (os : Os) (started : os.Started) (H : Type) (enc : TypeId × Value → H) :
    ReturnsInHanded {} Tryd.checked os 10 .any (fun w args => (Rows.keyHandsSpec.pre enc Tryd.prog Tryd.f10 Rows.keyHandsRow.domain false w args ∧ laidMetH Tryd.prog laidL w) ∧ sizedMet enc Tryd.prog Tryd.f10 (OpenSpec.ofChange Rows.keyHandsSpec) false w args)
      (Rows.keyHandsSpec.post enc Tryd.prog Tryd.f10 false true false false) := by
  refine returnsInHanded_of_change_and (C := Tryd.checked) (X := fun w _ => laidMetH Tryd.prog laidL w) (fun _ _ _ hh h => h.of_heap hh) Tryd.own started (by kernel_rfl) Tryd.func10
    (ChangeSpec.witness_shaped (enc := enc) (C := Tryd.checked) (os := os) (X := fun w _ => laidMetH Tryd.prog laidL w) false (World.laidAll Tryd.prog os laidL) #[.agg [Value.slice none 0 0, I 0, Value.slice none 0 0, Value.slice none 0 0, B 0, Str []].toArray] 10 (World.laidAll_os _ _ _)
      (World.shaped_of_ZipB (by kernel_rfl) (by kernel_rfl)) (by kernel_rfl) (by kernel_rfl) (by kernel_rfl) (laid_met os _)) ?_
  intro W base args ds gs before hval0 hW hcnd _ hL _
  have hval : ∀ (j : Nat) t v, Tryd.f10.params[j]? = some t → args[j]? = some v → Value.okWide Tryd.prog W .any base t v := hval0
  have hW' := hW
  obtain ⟨p, q, hA0, hV, rfl, hfz, hnd⟩ := hW
  have hA : DataW.TrodAll enc Tryd.prog W 0 (fun _ => true) true Tryd.f10.params.toList args.toList ds p := hA0
  rw [Tryd.params10] at hA hval
  obtain ⟨v0, d0, rfl, rfl, h0⟩ := trodAll_one hA
  obtain ⟨rfl, rfl⟩ := trodVars_none hV
  have hg := glob_of_laid hL
  obtain ⟨wl, bl, nm, ps, z, kind, wv, bv, pv, rfl, hw, hb, hv, hpp, hnm, hps, hpl⟩ := open_line (hval 0 47 v0 rfl rfl) h0
  refine row_true (P := Tryd.prog) (b := 4) hW' Tryd.laidOut (by kernel_rfl) rfl rfl Tryd.underlying4 ?_ (keyHands_spec (Ro.nil hw) (Ro.nil hb) (Ro.nil hv) (fun p hp => Ro.nil (hpp p hp)) hv.one hnm hps (Ro.nil hg))
  intro ds' hl
  match ds', hl with
  | [a], _ => exact ⟨rfl, rfl, rfl⟩
theorem keyHands_said : Rows.KeyHandsSaid :=
  OpenClaim.holds_of_wide 10 Tryd.f10 rfl rfl rfl rfl rfl rfl rfl ⟨rfl, rfl, rfl, rfl, rfl⟩ rfl rfl rfl rfl rfl (by kernel_rfl) Tryd.func10 (by kernel_rfl)
    (of_decide_eq_true (by kernel_rfl)) (by unfold Func.isWrapper; first | (rw [if_pos (by decide +kernel)]; kernel_rfl) | (rw [if_neg (by decide +kernel)]; exact ⟨rfl, rfl⟩))
    (fun os started H enc _ => keyHands_lifted os started H enc)
theorem keyHands_holds : Rows.KeyHandsCardSaid :=
  Claim7.holds_tied_plain_at .later [] [.data, .data] true (true, "77f3ccb3c5c36ad29df675c2a6a6cc35587ebc85bd5d164c0302a0a830305f7a") false keyHands_said (fun _ h => by cases h) (by kernel_rfl) (fun _ h => by cases h) keyHands_row_tie rfl ⟨rfl, rfl⟩ (by kernel_rfl) rfl
    (fun f fn hf hfn => by
      obtain rfl : f = 10 := Option.some.inj ((show Tryd.prog.funcNamed "hypogeum/hypogeumlaw11.KeyHands" = some 10 by kernel_rfl).symm.trans hf) |>.symm
      obtain rfl : fn = Tryd.f10 := (Option.some.inj (Tryd.func10.symm.trans hfn)).symm
      exact ⟨by kernel_rfl, fun j t ht => by
        rw [Tryd.params10] at ht
        have hm : t ∈ [47] := by simpa using Array.mem_of_getElem? ht
        have hall : ([47].all fun u => !Tryd.prog.wantsStandIn u) = true := by kernel_rfl
        exact (show Tryd.prog.wantsStandIn t = false by simpa using List.all_eq_true.1 hall t hm)⟩)
    (by kernel_rfl)
end Go.Proofs.YtfofkjajlfphjaaDoor

/- The row of CipherFlows, proved. -/
import Derived.Test.YtfofkjajlfphjaaRowKitC
import Derived.Test.YtfofkjajlfphjaaCipI
namespace Go.Proofs.Ytfofkjajlfphjaa
open Go.ChangeShapes Go.WideShapes Go.ChangeAt Go.RowKit
set_option maxRecDepth 100000 in
theorem flows_lifted (os : Os) (started : os.Started) (H : Type) (enc : TypeId × Value → H) :
    ReturnsInHanded {} Try.checked os 7 .any (Rows.cipherFlowsSpec.pre6 enc Try.prog Try.f7 Rows.cipherFlowsRow.domain false) (Rows.cipherFlowsSpec.post enc Try.prog Try.f7 false true false false) := by
  refine returnsInHanded_of_change (C := Try.checked) Try.own started (by kernel_rfl) Try.func7
    (ChangeSpec.witness6 (enc := enc) (C := Try.checked) false ⟨#[], #[.agg ((List.replicate 48 0).map B ++ [I 0, .slice none 0 0]).toArray], []⟩ 8 (by kernel_rfl) (by kernel_rfl) (by kernel_rfl) (by kernel_rfl)) ?_
  intro W base args ds gs before hval0 hW hcnd _
  have hval : ∀ (j : Nat) t v, Try.f7.params[j]? = some t → args[j]? = some v → Value.okWide Try.prog W .any base t v := hval0
  have hW' := hW
  obtain ⟨p, q, hA0, hV, rfl, hfz, hnd⟩ := hW
  have hA : DataW.TrodAll enc Try.prog W 0 (fun _ => true) true Try.f7.params.toList args.toList ds p := hA0
  rw [Try.params7] at hA hval
  obtain ⟨v0, d0, rfl, rfl, h0⟩ := trodAll_one hA
  obtain ⟨rfl, rfl⟩ := trodVars_none hV
  obtain ⟨Kb, N, at_, vb, bs, rfl, hK, hN, hat, hR, _⟩ := open_pour (hval 0 42 v0 rfl rfl) h0
  refine row_true (P := Try.prog) (b := 4) hW' Try.laidOut (by kernel_rfl) rfl rfl Try.underlying4 ?_ (flows_spec Kb N at_ vb bs W hK hN hR)
  intro ds' hl
  match ds', hl with
  | [a], _ => exact ⟨rfl, rfl, rfl⟩

theorem cipherFlows_holds : Rows.CipherFlowsSaid :=
  OpenClaim.holds_of_wide 7 Try.f7 rfl rfl rfl rfl rfl rfl rfl ⟨rfl, rfl, rfl, rfl, rfl⟩ rfl rfl rfl rfl rfl (by kernel_rfl) Try.func7 (by kernel_rfl)
    (of_decide_eq_true (by kernel_rfl)) (by unfold Func.isWrapper; rw [if_neg (of_decide_eq_false (by kernel_rfl))]; exact ⟨rfl, rfl⟩)
    (fun os started H enc _ => flows_lifted os started H enc)
end Go.Proofs.Ytfofkjajlfphjaa

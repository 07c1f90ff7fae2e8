/- The row of CipherParts, proved. -/
import Derived.Test.YtfofkjajlfphjaaRowKitC
import Derived.Test.YtfofkjajlfphjaaCipJ
namespace Go.Proofs.Ytfofkjajlfphjaa
open Go.ChangeShapes Go.WideShapes Go.ChangeAt Go.RowKit
theorem ints_of_each (cs : List Value) (h : ∀ (i : Nat) (v : Value), cs[i]? = some v → ∃ n : Int, v = I n) : ∃ l : List Int, cs = l.map I := by
  induction cs with
  | nil => exact ⟨[], rfl⟩
  | cons c cs ih =>
    obtain ⟨b, rfl⟩ := h 0 c rfl
    obtain ⟨l, rfl⟩ := ih (fun i v hv => h (i + 1) v (by simpa using hv))
    exact ⟨b :: l, rfl⟩
theorem ov_ints {H : Type} {P : Program} {enc : TypeId × Value → H} {W : World} {t : TypeId} {v : Value} {d : DataW H} {ps : List MemPlace} {b0 : Nat} {r : Reach} {e : TypeId} (ht : P.underlying t = some (.slice e)) (he : P.underlying e = some (.int .i64)) (hc : P.cellsOf e = 1)
    (hval : Value.okWide P W r b0 t v) (hd : DataW.Trod enc P W 0 (fun _ => true) true t v d ps) : ∃ l : List Int, RdS W v (l.map I) := by
  obtain ⟨fuel, h⟩ := hd
  obtain ⟨a, n, c, rfl⟩ := okWide_slice ht hval
  rcases open_ints ht he hc h with ⟨h0, _⟩ | ⟨a, len, cap, zs, h0, _, hl, hm, hz, _, hcell, hwf⟩
  · simp [Value.cells] at h0
    obtain ⟨rfl, rfl, rfl⟩ := h0
    exact ⟨[], .inl ⟨rfl, rfl⟩⟩
  simp [Value.cells] at h0
  obtain ⟨rfl, rfl, rfl⟩ := h0
  have hlz : n ≤ zs.length := by rw [hz]; split <;> omega
  refine ⟨zs.take n, .inr ⟨a, c, by simp; omega, by simp; omega, fun j u hj => ?_⟩⟩
  simp only [List.getElem?_map, Option.map_eq_some_iff] at hj
  obtain ⟨z, h1, rfl⟩ := hj
  have hj' : j < n := by have := (List.getElem?_eq_some_iff.1 h1).1; simp at this; omega
  rw [hcell j (by omega)]
  rw [List.getElem?_take] at h1
  simp [hj'] at h1
  simp [List.getD, h1]
set_option maxRecDepth 100000 in
theorem parts_lifted (os : Os) (started : os.Started) (H : Type) (enc : TypeId × Value → H) :
    ReturnsInHanded {} Try.checked os 8 .any (Rows.cipherPartsSpec.pre6 enc Try.prog Try.f8 Rows.cipherPartsRow.domain false) (Rows.cipherPartsSpec.post enc Try.prog Try.f8 false true false false) := by
  refine returnsInHanded_of_change (C := Try.checked) Try.own started (by kernel_rfl) Try.func8
    (ChangeSpec.witness6 (enc := enc) (C := Try.checked) false ⟨#[], #[.agg ((List.replicate 48 0).map B ++ [I 0, .slice none 0 0]).toArray, .slice none 0 0], []⟩ 8 (by kernel_rfl) (by kernel_rfl) (by kernel_rfl) (by kernel_rfl)) ?_
  intro W base args ds gs before hval0 hW hcnd _
  have hval : ∀ (j : Nat) t v, Try.f8.params[j]? = some t → args[j]? = some v → Value.okWide Try.prog W .any base t v := hval0
  have hW' := hW
  obtain ⟨p, q, hA0, hV, rfl, hfz, hnd⟩ := hW
  have hA : DataW.TrodAll enc Try.prog W 0 (fun _ => true) true Try.f8.params.toList args.toList ds p := hA0
  rw [Try.params8] at hA hval
  obtain ⟨v0, v1, d0, d1, p0, p1, rfl, rfl, rfl, h0, h1⟩ := trodAll_two hA
  obtain ⟨rfl, rfl⟩ := trodVars_none hV
  obtain ⟨Kb, N, at_, vb, bs, rfl, hK, hN, hat, hR, _⟩ := open_pour (hval 0 42 v0 rfl rfl) h0
  obtain ⟨zs, hC⟩ := ov_ints Try.underlying54 Try.underlying3 (by kernel_rfl) (hval 1 54 v1 rfl rfl) h1
  refine row_true (P := Try.prog) (b := 4) hW' Try.laidOut (by kernel_rfl) rfl rfl Try.underlying4 ?_ (parts_spec Kb N at_ vb bs v1 zs W hK hN hR hC)
  intro ds' hl
  match ds', hl with
  | [a, b], _ => exact ⟨rfl, rfl, rfl⟩

theorem cipherParts_holds : Rows.CipherPartsSaid :=
  OpenClaim.holds_of_wide 8 Try.f8 rfl rfl rfl rfl rfl rfl rfl ⟨rfl, rfl, rfl, rfl, rfl⟩ rfl rfl rfl rfl rfl (by kernel_rfl) Try.func8 (by kernel_rfl)
    (of_decide_eq_true (by kernel_rfl)) (by unfold Func.isWrapper; rw [if_neg (of_decide_eq_false (by kernel_rfl))]; exact ⟨rfl, rfl⟩)
    (fun os started H enc _ => parts_lifted os started H enc)
end Go.Proofs.Ytfofkjajlfphjaa

/- The row of LogCrashes and its tied card, proved: whatever the input, the law returns true and its arguments read as before. Conditions: none beyond the card's own (package variables are laid as the program's text lays them). -/
import Derived.Test.YtnhpghhibcdklaaGreatDoorPtLogCrashes6
set_option linter.unusedSimpArgs false
set_option linter.unusedVariables false
namespace Go.Proofs.YtnhpghhibcdklaaGreatDoor
open Go Go.ChangeShapes Go.WideShapes Go.ChangeAt Go.RowKit
set_option maxRecDepth 100000
/-- the words that the program lays -/
abbrev logCrashes_laidL : List (String × DataW Unit) := [("math/bits.deBruijn32tab", Rows.laid_math_bits_deBruijn32tab), ("math/bits.deBruijn64tab", Rows.laid_math_bits_deBruijn64tab), ("internal/strconv.uint64pow10", Rows.laid_internal_strconv_uint64pow10), ("unicode/utf8.acceptRanges", Rows.laid_unicode_utf8_acceptRanges), ("hypogeum/sum.begin", Rows.laid_hypogeum_sum_begin), ("hypogeum/sum.steps", Rows.laid_hypogeum_sum_steps), ("unicode/utf8.first", Rows.laid_unicode_utf8_first)]
theorem logCrashes_glob {W : World} (h : laidMetH Tryz.prog logCrashes_laidL W) : glob.holds W := by
  rw [MakeChecks.laidMetH_plain _ _ _ (by kernel_rfl)] at h
  obtain ⟨ps, ⟨g0, t0, cs0, fuel0, p0, q0, hg0, ht0, hv0, hd0, ⟨g1, t1, cs1, fuel1, p1, q1, hg1, ht1, hv1, hd1, ⟨g2, t2, cs2, fuel2, p2, q2, hg2, ht2, hv2, hd2, ⟨g3, t3, cs3, fuel3, p3, q3, hg3, ht3, hv3, hd3, ⟨g4, t4, cs4, fuel4, p4, q4, hg4, ht4, hv4, hd4, ⟨g5, t5, cs5, fuel5, p5, q5, hg5, ht5, hv5, hd5, ⟨g6, t6, cs6, fuel6, p6, q6, hg6, ht6, hv6, hd6, _, _, _⟩, _, _⟩, _, _⟩, _, _⟩, _, _⟩, _, _⟩, _, _⟩, _, _⟩ := h
  obtain rfl := Option.some.inj ((show Tryz.prog.globalNamed "hypogeum/sum.begin" = some 0 by kernel_rfl).symm.trans hg4)
  obtain rfl := Option.some.inj ((show (Tryz.prog.globals[0]?).map (·.type) = some 214 by kernel_rfl).symm.trans ht4)
  obtain rfl := Option.some.inj ((show Tryz.prog.globalNamed "hypogeum/sum.steps" = some 1 by kernel_rfl).symm.trans hg5)
  obtain rfl := Option.some.inj ((show (Tryz.prog.globals[1]?).map (·.type) = some 422 by kernel_rfl).symm.trans ht5)
  exact ⟨words_cell hg4 hv4 hd4 Tryz.underlying214 Tryz.underlying213 (by kernel_rfl) rfl rfl, words_cell hg5 hv5 hd5 Tryz.underlying422 Tryz.underlying213 (by kernel_rfl) rfl rfl⟩
theorem logCrashes_laid_met (os : Os) (args : Array Value) : laidMetH Tryz.prog logCrashes_laidL ((World.laidAll Tryz.prog os logCrashes_laidL).forCall (fun _ _ => 0) ⟨#[], args, []⟩).memory := by
  rw [MakeChecks.laidMetH_plain _ _ _ (by kernel_rfl)]; exact laidMet_laidAll _ (by kernel_rfl) (by kernel_rfl)
theorem logCrashes_lifted (os : Os) (started : os.Started) (H : Type) (enc : TypeId × Value → H) :
    ReturnsInHanded {} Tryz.checked os 4 .any (fun w args => (Rows.logCrashesSpec.pre enc Tryz.prog Tryz.f4 Rows.logCrashesRow.domain false w args ∧ laidMetH Tryz.prog logCrashes_laidL w) ∧ sizedMet enc Tryz.prog Tryz.f4 (OpenSpec.ofChange Rows.logCrashesSpec) false w args)
      (Rows.logCrashesSpec.post enc Tryz.prog Tryz.f4 false true false false) := by
  refine returnsInHanded_of_change_and (C := Tryz.checked) (X := fun w _ => laidMetH Tryz.prog logCrashes_laidL w) (fun _ _ _ hh h => h.of_heap hh) Tryz.own started (by kernel_rfl) Tryz.func4
    (ChangeSpec.witness_shaped (enc := enc) (C := Tryz.checked) (os := os) (X := fun w _ => laidMetH Tryz.prog logCrashes_laidL w) false (World.laidAll Tryz.prog os logCrashes_laidL) #[.agg [Value.slice none 0 0, Value.slice none 0 0, I 0, Value.slice none 0 0].toArray] 10 (World.laidAll_os _ _ _)
      (World.shaped_of_ZipB (by kernel_rfl) (by kernel_rfl)) (by kernel_rfl) (by kernel_rfl) (by kernel_rfl) (logCrashes_laid_met os _)) ?_
  intro W base args ds gs before hval0 hW hcnd _ hL _
  have hval : ∀ (j : Nat) t v, Tryz.f4.params[j]? = some t → args[j]? = some v → Value.okWide Tryz.prog W .any base t v := hval0
  have hW' := hW
  obtain ⟨p, q, hA0, hV, rfl, hfz, hnd⟩ := hW
  have hA : DataW.TrodAll enc Tryz.prog W 0 (fun _ => true) true Tryz.f4.params.toList args.toList ds p := hA0
  rw [Tryz.params4] at hA hval
  obtain ⟨v0, d0, rfl, rfl, h0⟩ := trodAll_one hA
  obtain ⟨rfl, rfl⟩ := trodVars_none hV
  have hg := logCrashes_glob hL
  obtain ⟨fv, mv, pv, fr, mr, nn, pl, rfl, hfr, hmr, hpp, hfl, hml, hfn, hmn, hpl⟩ := open_night (hval 0 75 v0 rfl rfl) h0
  refine row_true (P := Tryz.prog) (b := 4) hW' Tryz.laidOut (by kernel_rfl) rfl rfl Tryz.underlying4 ?_ (crashes_spec (Ro.nil hfr) (Ro.nil hmr) (Ro.nil hpp) hfl hml hfn hmn hpl (Ro.nil hg))
  intro ds' hl
  match ds', hl with
  | [a], _ => exact ⟨rfl, rfl, rfl⟩
set_option maxHeartbeats 8000000 in
theorem logCrashes_closed : joinedFacts Tryz.prog 4 Tryz.f4 Rows.logCrashesSpec Rows.logCrashesRow = true := by
  unfold joinedFacts
  simp only [Bool.and_eq_true]
  repeat' (refine And.intro ?_ ?_)
  rotate_left 1
  exact Tryz.laidOut
  all_goals (as_aux_lemma => kernel_rfl)
theorem logCrashes_said : Rows.LogCrashesSaid :=
  OpenClaim.holds_of_wide 4 Tryz.f4 rfl rfl rfl rfl rfl rfl rfl ⟨rfl, rfl, rfl, rfl, rfl⟩ rfl rfl rfl rfl rfl (by kernel_rfl) Tryz.func4 logCrashes_closed
    (of_decide_eq_true (by kernel_rfl)) (by unfold Func.isWrapper; first | (rw [if_pos (by decide +kernel)]; kernel_rfl) | (rw [if_neg (by decide +kernel)]; exact ⟨rfl, rfl⟩))
    (fun os started H enc _ => logCrashes_lifted os started H enc)
theorem logCrashes_looks : false = Tryz.prog.looks [] := by kernel_rfl
theorem logCrashes_holds : Rows.LogCrashesCardSaid :=
  Claim7.holds_tied_plain_at .later [] [.data, .data, .data, .data, .data, .data, .pinned] true (true, "cdea4fdf232e8f626af9368f320070bd671902311d3f002fefd496fa618822c2") false logCrashes_said (fun _ h => by cases h) (by as_aux_lemma => kernel_rfl) (fun _ h => by cases h) logCrashes_row_tie rfl ⟨rfl, rfl⟩ (by as_aux_lemma => kernel_rfl) rfl
    (fun f fn hf hfn => by
      obtain rfl : f = 4 := Option.some.inj ((show Tryz.prog.funcNamed "hypogeum/hypogeumlaw18.LogCrashes" = some 4 by kernel_rfl).symm.trans hf) |>.symm
      obtain rfl : fn = Tryz.f4 := (Option.some.inj (Tryz.func4.symm.trans hfn)).symm
      exact ⟨logCrashes_looks, fun j t ht => by
        rw [Tryz.params4] at ht
        have hm : t ∈ [75] := by simpa using Array.mem_of_getElem? ht
        have hall : ([75].all fun u => !Tryz.prog.wantsStandIn u) = true := by kernel_rfl
        exact (show Tryz.prog.wantsStandIn t = false by simpa using List.all_eq_true.1 hall t hm)⟩)
    (by as_aux_lemma => kernel_rfl)
end Go.Proofs.YtnhpghhibcdklaaGreatDoor

/- The row of IndexWrites and its tied card, proved: whatever the input, the law returns true and its arguments read as before. Conditions: none beyond the card's own (package variables are laid as the program's text lays them). -/
import Derived.Test.YtkkjfojgjmglpaaGreatDoorPtIndexWrites5
set_option linter.unusedSimpArgs false
set_option linter.unusedVariables false
namespace Go.Proofs.YtkkjfojgjmglpaaGreatDoor
open Go Go.ChangeShapes Go.WideShapes Go.ChangeAt Go.RowKit
set_option maxRecDepth 100000
/-- the words that the program lays -/
abbrev indexWrites_laidL : List (String × DataW Unit) := [("unicode/utf8.acceptRanges", Rows.laid_unicode_utf8_acceptRanges), ("hypogeum/sum.begin", Rows.laid_hypogeum_sum_begin), ("hypogeum/sum.steps", Rows.laid_hypogeum_sum_steps), ("unicode/utf8.first", Rows.laid_unicode_utf8_first)]
theorem indexWrites_glob {W : World} (h : laidMetH Tryz.prog indexWrites_laidL W) : glob.holds W := by
  rw [MakeChecks.laidMetH_plain _ _ _ (by kernel_rfl)] at h
  obtain ⟨ps, ⟨g0, t0, cs0, fuel0, p0, q0, hg0, ht0, hv0, hd0, ⟨g1, t1, cs1, fuel1, p1, q1, hg1, ht1, hv1, hd1, ⟨g2, t2, cs2, fuel2, p2, q2, hg2, ht2, hv2, hd2, ⟨g3, t3, cs3, fuel3, p3, q3, hg3, ht3, hv3, hd3, _, _, _⟩, _, _⟩, _, _⟩, _, _⟩, _, _⟩ := h
  obtain rfl := Option.some.inj ((show Tryz.prog.globalNamed "hypogeum/sum.begin" = some 0 by kernel_rfl).symm.trans hg1)
  obtain rfl := Option.some.inj ((show (Tryz.prog.globals[0]?).map (·.type) = some 211 by kernel_rfl).symm.trans ht1)
  obtain rfl := Option.some.inj ((show Tryz.prog.globalNamed "hypogeum/sum.steps" = some 1 by kernel_rfl).symm.trans hg2)
  obtain rfl := Option.some.inj ((show (Tryz.prog.globals[1]?).map (·.type) = some 293 by kernel_rfl).symm.trans ht2)
  exact ⟨words_cell hg1 hv1 hd1 Tryz.underlying211 Tryz.underlying210 (by kernel_rfl) rfl rfl, words_cell hg2 hv2 hd2 Tryz.underlying293 Tryz.underlying210 (by kernel_rfl) rfl rfl⟩
theorem indexWrites_laid_met (os : Os) (args : Array Value) : laidMetH Tryz.prog indexWrites_laidL ((World.laidAll Tryz.prog os indexWrites_laidL).forCall (fun _ _ => 0) ⟨#[], args, []⟩).memory := by
  rw [MakeChecks.laidMetH_plain _ _ _ (by kernel_rfl)]; exact laidMet_laidAll _ (by kernel_rfl) (by kernel_rfl)
theorem indexWrites_lifted (os : Os) (started : os.Started) (H : Type) (enc : TypeId × Value → H) :
    ReturnsInHanded {} Tryz.checked os 3 .any (fun w args => (Rows.indexWritesSpec.pre enc Tryz.prog Tryz.f3 Rows.indexWritesRow.domain false w args ∧ laidMetH Tryz.prog indexWrites_laidL w) ∧ sizedMet enc Tryz.prog Tryz.f3 (OpenSpec.ofChange Rows.indexWritesSpec) false w args)
      (Rows.indexWritesSpec.post enc Tryz.prog Tryz.f3 false true false false) := by
  refine returnsInHanded_of_change_and (C := Tryz.checked) (X := fun w _ => laidMetH Tryz.prog indexWrites_laidL w) (fun _ _ _ hh h => h.of_heap hh) Tryz.own started (by kernel_rfl) Tryz.func3
    (ChangeSpec.witness_shaped (enc := enc) (C := Tryz.checked) (os := os) (X := fun w _ => laidMetH Tryz.prog indexWrites_laidL w) false (World.laidAll Tryz.prog os indexWrites_laidL) #[B 0, .agg [Value.slice none 0 0, Value.slice none 0 0].toArray] 10 (World.laidAll_os _ _ _)
      (World.shaped_of_ZipB (by kernel_rfl) (by kernel_rfl)) (by kernel_rfl) (by kernel_rfl) (by kernel_rfl) (indexWrites_laid_met os _)) ?_
  intro W base args ds gs before hval0 hW hcnd _ hL _
  have hval : ∀ (j : Nat) t v, Tryz.f3.params[j]? = some t → args[j]? = some v → Value.okWide Tryz.prog W .any base t v := hval0
  have hW' := hW
  obtain ⟨p, q, hA0, hV, rfl, hfz, hnd⟩ := hW
  have hA : DataW.TrodAll enc Tryz.prog W 0 (fun _ => true) true Tryz.f3.params.toList args.toList ds p := hA0
  rw [Tryz.params3] at hA hval
  obtain ⟨v0, v1, d0, d1, p0, p1, rfl, rfl, rfl, h0, h1⟩ := trodAll_two hA
  obtain ⟨rfl, rfl⟩ := trodVars_none hV
  have hg := indexWrites_glob hL
  obtain ⟨z0, rfl, _, _, hwf0⟩ := open_int Tryz.underlying5 (hval 0 5 v0 rfl rfl) h0
  obtain ⟨n, hz0⟩ := wf_u8 hwf0
  obtain rfl : z0 = (n.toNat : Int) := by simpa [B] using hz0
  obtain ⟨pv, ov, rows, ol, rfl, hrows, hpk, hol, hrl, holl, hos⟩ := open_file (hval 1 25 v1 rfl rfl) h1
  refine row_true (P := Tryz.prog) (b := 4) hW' Tryz.laidOut (by kernel_rfl) rfl rfl Tryz.underlying4 ?_ (indexWrites_spec (Ro.nil hrows) (fun u hu => Ro.nil (hpk u hu).1) (Ro.nil hol) hrl holl hos (fun u hu => (hpk u hu).2) (Ro.nil hg))
  intro ds' hl
  match ds', hl with
  | [a, b], _ => exact ⟨rfl, rfl, rfl⟩
theorem indexWrites_said : Rows.IndexWritesSaid :=
  OpenClaim.holds_of_wide 3 Tryz.f3 rfl rfl rfl rfl rfl rfl rfl ⟨rfl, rfl, rfl, rfl, rfl⟩ rfl rfl rfl rfl rfl (by kernel_rfl) Tryz.func3 (by kernel_rfl)
    (of_decide_eq_true (by kernel_rfl)) (by unfold Func.isWrapper; first | (rw [if_pos (by decide +kernel)]; kernel_rfl) | (rw [if_neg (by decide +kernel)]; exact ⟨rfl, rfl⟩))
    (fun os started H enc _ => indexWrites_lifted os started H enc)
theorem indexWrites_holds : Rows.IndexWritesCardSaid :=
  Claim7.holds_tied_plain_at .later [] [.data, .data, .data, .pinned] true (true, "9c83dda32252f958501f65c97ae845d94fcf8785a8a22c39c3702216d35f2a7e") false indexWrites_said (fun _ h => by cases h) (by kernel_rfl) (fun _ h => by cases h) indexWrites_row_tie rfl ⟨rfl, rfl⟩ (by kernel_rfl) rfl
    (fun f fn hf hfn => by
      obtain rfl : f = 3 := Option.some.inj ((show Tryz.prog.funcNamed "hypogeum/hypogeumlaw13.IndexWrites" = some 3 by kernel_rfl).symm.trans hf) |>.symm
      obtain rfl : fn = Tryz.f3 := (Option.some.inj (Tryz.func3.symm.trans hfn)).symm
      exact ⟨by kernel_rfl, fun j t ht => by
        rw [Tryz.params3] at ht
        have hm : t ∈ [5, 25] := by simpa using Array.mem_of_getElem? ht
        have hall : ([5, 25].all fun u => !Tryz.prog.wantsStandIn u) = true := by kernel_rfl
        exact (show Tryz.prog.wantsStandIn t = false by simpa using List.all_eq_true.1 hall t hm)⟩)
    (by kernel_rfl)
end Go.Proofs.YtkkjfojgjmglpaaGreatDoor

/- sum's reference: the walks over right, words and fold. -/
import Derived.Test.YtfofkjajlfphjaaDoorSumB
set_option linter.unusedSimpArgs false
set_option linter.unusedVariables false
namespace Go.Proofs.YtfofkjajlfphjaaDoor
open Go Go.RowKit
set_option maxRecDepth 100000
attribute [local irreducible] sched schedZ rounds rr addI blockF word
theorem right_spec (a : UInt32) (n : Nat) {w : World} (h : 1 ≤ n ∧ n ≤ 31) : Spec Tryd.prog 107 [W4 a, I (n : Int)] w [] (fun _ : Unit => True) (fun _ => W4 (rr a n)) (fun _ => []) := by
  refine spec_of (n := 13) Tryd.func107 rfl rfl trivial trivial rfl ?_
  refine tk_seq ?_
  refine tk_region ?_
  refine tk_q rfl rfl rfl (y_assign rfl) ?_
  refine tk_nil ?_
  refine tk_then ?_
  refine tk_seq ?_
  refine tk_drawH [] [] (by kernel_rfl) ?_
  refine tx_q 0 rfl (by kernel_rfl) rfl rfl rfl (fun _ _ _ h => h) (y_move rfl) ?_
  refine tx_q 1 rfl (by kernel_rfl) rfl rfl rfl (fun _ _ _ h => h) (y_move rfl) ?_
  refine tx_q 2 rfl (by kernel_rfl) rfl rfl rfl (fun _ _ _ h => h) (y_shrW (a := a) (m := n) rfl rfl (by omega)) ?_
  refine tx_q 3 rfl (by kernel_rfl) rfl rfl rfl (fun _ _ _ h => h) (y_move rfl) ?_
  refine tx_q 4 rfl (by kernel_rfl) rfl rfl rfl (fun _ _ _ h => h) (y_move rfl) ?_
  refine tx_q 5 rfl (by kernel_rfl) rfl rfl rfl (fun _ _ _ h => h) (y_subN (a := 32) (b := n) rfl rfl (by omega)) ?_
  refine tx_q 6 rfl (by kernel_rfl) rfl rfl rfl (fun _ _ _ h => h) (y_shlW (a := a) (m := 32 - n) rfl rfl (by omega)) ?_
  refine tx_q 7 rfl (by kernel_rfl) rfl rfl rfl (fun _ _ _ h => h) ((y_orW (a := a >>> UInt32.ofNat n) (b := a <<< UInt32.ofNat (32 - n)) rfl rfl).cast (v := _) (u := W4 (rr a n)) (congrArg W4 (rr_def' a n))) ?_
  refine tx_q 8 rfl (by kernel_rfl) rfl rfl rfl (fun _ _ _ h => h) (y_assign rfl) ?_
  refine tx_done (by kernel_rfl) ?_
  refine tk_then ?_
  refine tk_retc ?_
  exact tk_ret (()) (trivial) (.inl rfl) (r1 rfl rfl) (List.Sublist.refl _)
theorem words_spec {w : World} : Spec Tryd.prog 106 [] w [] (fun _ : Nat => True) (fun b => .slice (some ⟨b, 0, none⟩) 64 64) (fun b => [cel b (stepsL.map W4) 161]) := by
  refine spec_of (n := 2) Tryd.func106 rfl rfl trivial trivial rfl ?_
  refine tk_seq ?_
  refine tk_region ?_
  refine tk_q rfl rfl rfl (y_assign rfl) ?_
  refine tk_nil ?_
  refine tk_then ?_
  refine tk_seq ?_
  refine tk_region ?_
  refine tk_act rfl ?_; refine a_slitN (vs := stepsL.map W4) rfl oneW EL162 rfl rfl (by decide) fun b1 => ?_
  refine tk_q rfl rfl rfl (y_assign rfl) ?_
  refine tk_nil ?_
  refine tk_then ?_
  refine tk_retc ?_
  exact tk_ret (b1) (trivial) (.inl rfl) (r1 rfl rfl) (List.Sublist.refl _)
theorem fold_spec {rv bv : Value} {R : List UInt32} {blk : List UInt8} {w : World} (hr : Ro (Fs []) w (rd rv (R.map W4))) (hbk : Ro (Fs []) w (rdB bv blk)) (hR8 : R.length = 8) (hb : blk.length = 64) :
    Spec Tryd.prog 94 [rv, bv] w [] (fun _ : Value => True) (fun v => v) (fun v => [ownM W4 v (blockF R blk) 161]) := by
  refine spec_of (n := 257) Tryd.func94 rfl rfl trivial trivial rfl ?_
  have h8 := stepsL_len
  refine tk_seq ?_
  refine tk_region ?_
  refine tk_q rfl rfl rfl (y_assign rfl) ?_
  refine tk_nil ?_
  refine tk_then ?_
  refine tk_seq ?_
  refine tk_region ?_
  refine tk_act rfl ?_; refine a_callv [] _ rfl (by kernel_rfl) rfl (fun w' hw' => words_spec) rfl fun b18 _ => ?_
  refine tk_q rfl rfl rfl (y_assign rfl) ?_
  refine tk_nil ?_
  refine tk_then ?_
  refine tk_seq ?_
  refine tk_region ?_
  refine tk_act rfl ?_; refine a_makeM (f := W4) (z := 0) (m := 64) rfl rfl MK162 rfl rfl ⟨lenP, lenP⟩ fun b19 => ?_
  refine tk_q rfl rfl rfl (y_assign rfl) ?_
  refine tk_nil ?_
  refine tk_then ?_
  refine tk_seq ?_
  refine tk_seq ?_
  refine tk_region ?_
  refine tk_q rfl rfl rfl (y_assign rfl) ?_
  refine tk_nil ?_
  refine tk_then ?_
  refine tk_block ?_
  refine tk_H [cel b19 ((schedZ blk 0).map W4) 161, cel b18 (stepsL.map W4) 161] (congrArg (fun z_ => [cel b19 z_ 161, cel b18 (stepsL.map W4) 161]) (show (List.replicate 64 0).map W4 = (schedZ blk 0).map W4 from by rw [schedZ_0])) ?_
  refine tk_loop (X := Nat) (fun i => i ≤ 64) (fun i => [(0, rv), (1, bv), (4, .slice none 0 0), (5, .slice (some ⟨b18, 0, none⟩) 64 64), (6, .slice (some ⟨b19, 0, none⟩) 64 64), (7, I ((i : Nat) : Int))]) (fun i => [cel b19 ((schedZ blk i).map W4) 161, cel b18 (stepsL.map W4) 161]) (fun i => 64 - i) (0) (by first | exact trivial | omega | (dsimp only; omega)) (by repeat (first | exact trivial | refine ⟨rfl, ?_⟩)) ((List.Sublist.refl _)) ?_
  rintro i hI
  try dsimp only at hI ⊢
  have hz : (schedZ blk i).length = 64 := schedZ_len (by omega)
  refine tk_seq ?_
  refine tk_seq ?_
  refine tk_region ?_
  refine tk_q rfl rfl rfl (y_move rfl) ?_
  refine tk_q rfl rfl rfl (y_lss rfl rfl) ?_
  refine tk_nil ?_
  refine tk_then ?_
  refine tk_condP rfl (fun ht21 => ?_) (fun ht21 => ?_)
  · skip
    refine tk_skip ?_
    refine tk_then ?_
    refine tk_seq ?_
    refine tk_block ?_
    refine tk_seq ?_
    refine tk_region ?_
    refine tk_q rfl rfl rfl (y_move rfl) ?_
    refine tk_q rfl rfl rfl (y_lss rfl rfl) ?_
    refine tk_nil ?_
    refine tk_then ?_
    refine tk_condP rfl (fun ht25 => ?_) (fun ht25 => ?_)
    · skip
      refine tk_drawH [cel b18 (stepsL.map W4) 161] [] (by kernel_rfl) ?_
      refine tx_q 0 rfl (by kernel_rfl) rfl rfl rfl (fun _ _ _ h => h) (y_move rfl) ?_
      refine tx_q 1 rfl (by kernel_rfl) rfl rfl rfl (fun _ _ _ h => h) (y_move rfl) ?_
      refine tx_q 2 rfl (by kernel_rfl) rfl rfl rfl (fun _ _ _ h => h) (y_move rfl) ?_
      refine tx_q 3 rfl (by kernel_rfl) rfl rfl rfl (fun _ _ _ h => h) (y_move rfl) ?_
      refine tx_q 4 rfl (by kernel_rfl) rfl rfl rfl (fun _ _ _ h => h) (y_mulN (a := 4) (b := i) rfl rfl (by omega)) ?_
      refine tx_q 5 rfl (by kernel_rfl) rfl rfl rfl (fun _ _ _ h => h) (y_ixR (j := 4 * i) rfl rfl hbk.1 lenP (by kernel_rfl)) ?_
      refine tx_l 6 rfl (by kernel_rfl) (by kernel_rfl) rfl rfl rfl (fun _ _ _ h => h) (fun _ h => h.sub (.cons _ (List.Sublist.refl _))) (y_load rfl rfl (fun w hw => ((fun w hw => Ro.rd hbk hw) w hw).cell (gM (d := 0) lenP))) ?_
      refine tx_q 7 rfl (by kernel_rfl) rfl rfl rfl (fun _ _ _ h => h) (y_conv8W (a := blk.getD (4 * i) 0) rfl rfl rfl) ?_
      refine tx_q 8 rfl (by kernel_rfl) rfl rfl rfl (fun _ _ _ h => h) (y_shlW (a := (blk.getD (4 * i) 0).toUInt32) (m := 24) rfl rfl (by decide)) ?_
      refine tx_q 9 rfl (by kernel_rfl) rfl rfl rfl (fun _ _ _ h => h) (y_move rfl) ?_
      refine tx_q 10 rfl (by kernel_rfl) rfl rfl rfl (fun _ _ _ h => h) (y_move rfl) ?_
      refine tx_q 11 rfl (by kernel_rfl) rfl rfl rfl (fun _ _ _ h => h) (y_mulN (a := 4) (b := i) rfl rfl (by omega)) ?_
      refine tx_q 12 rfl (by kernel_rfl) rfl rfl rfl (fun _ _ _ h => h) (y_addN (a := 4 * i) (b := 1) rfl rfl (by omega)) ?_
      refine tx_q 13 rfl (by kernel_rfl) rfl rfl rfl (fun _ _ _ h => h) (y_ixR (j := (4 * i) + 1) rfl rfl hbk.1 lenP (by kernel_rfl)) ?_
      refine tx_l 14 rfl (by kernel_rfl) (by kernel_rfl) rfl rfl rfl (fun _ _ _ h => h) (fun _ h => h.sub (.cons _ (List.Sublist.refl _))) (y_load rfl rfl (fun w hw => ((fun w hw => Ro.rd hbk hw) w hw).cell (gM (d := 0) lenP))) ?_
      refine tx_q 15 rfl (by kernel_rfl) rfl rfl rfl (fun _ _ _ h => h) (y_conv8W (a := blk.getD ((4 * i) + 1) 0) rfl rfl rfl) ?_
      refine tx_q 16 rfl (by kernel_rfl) rfl rfl rfl (fun _ _ _ h => h) (y_shlW (a := (blk.getD ((4 * i) + 1) 0).toUInt32) (m := 16) rfl rfl (by decide)) ?_
      refine tx_q 17 rfl (by kernel_rfl) rfl rfl rfl (fun _ _ _ h => h) (y_addW (a := ((blk.getD (4 * i) 0).toUInt32) <<< UInt32.ofNat 24) (b := ((blk.getD ((4 * i) + 1) 0).toUInt32) <<< UInt32.ofNat 16) rfl rfl) ?_
      refine tx_q 18 rfl (by kernel_rfl) rfl rfl rfl (fun _ _ _ h => h) (y_move rfl) ?_
      refine tx_q 19 rfl (by kernel_rfl) rfl rfl rfl (fun _ _ _ h => h) (y_move rfl) ?_
      refine tx_q 20 rfl (by kernel_rfl) rfl rfl rfl (fun _ _ _ h => h) (y_mulN (a := 4) (b := i) rfl rfl (by omega)) ?_
      refine tx_q 21 rfl (by kernel_rfl) rfl rfl rfl (fun _ _ _ h => h) (y_addN (a := 4 * i) (b := 2) rfl rfl (by omega)) ?_
      refine tx_q 22 rfl (by kernel_rfl) rfl rfl rfl (fun _ _ _ h => h) (y_ixR (j := (4 * i) + 2) rfl rfl hbk.1 lenP (by kernel_rfl)) ?_
      refine tx_l 23 rfl (by kernel_rfl) (by kernel_rfl) rfl rfl rfl (fun _ _ _ h => h) (fun _ h => h.sub (.cons _ (List.Sublist.refl _))) (y_load rfl rfl (fun w hw => ((fun w hw => Ro.rd hbk hw) w hw).cell (gM (d := 0) lenP))) ?_
      refine tx_q 24 rfl (by kernel_rfl) rfl rfl rfl (fun _ _ _ h => h) (y_conv8W (a := blk.getD ((4 * i) + 2) 0) rfl rfl rfl) ?_
      refine tx_q 25 rfl (by kernel_rfl) rfl rfl rfl (fun _ _ _ h => h) (y_shlW (a := (blk.getD ((4 * i) + 2) 0).toUInt32) (m := 8) rfl rfl (by decide)) ?_
      refine tx_q 26 rfl (by kernel_rfl) rfl rfl rfl (fun _ _ _ h => h) (y_addW (a := (((blk.getD (4 * i) 0).toUInt32) <<< UInt32.ofNat 24) + (((blk.getD ((4 * i) + 1) 0).toUInt32) <<< UInt32.ofNat 16)) (b := ((blk.getD ((4 * i) + 2) 0).toUInt32) <<< UInt32.ofNat 8) rfl rfl) ?_
      refine tx_q 27 rfl (by kernel_rfl) rfl rfl rfl (fun _ _ _ h => h) (y_move rfl) ?_
      refine tx_q 28 rfl (by kernel_rfl) rfl rfl rfl (fun _ _ _ h => h) (y_move rfl) ?_
      refine tx_q 29 rfl (by kernel_rfl) rfl rfl rfl (fun _ _ _ h => h) (y_mulN (a := 4) (b := i) rfl rfl (by omega)) ?_
      refine tx_q 30 rfl (by kernel_rfl) rfl rfl rfl (fun _ _ _ h => h) (y_addN (a := 4 * i) (b := 3) rfl rfl (by omega)) ?_
      refine tx_q 31 rfl (by kernel_rfl) rfl rfl rfl (fun _ _ _ h => h) (y_ixR (j := (4 * i) + 3) rfl rfl hbk.1 lenP (by kernel_rfl)) ?_
      refine tx_l 32 rfl (by kernel_rfl) (by kernel_rfl) rfl rfl rfl (fun _ _ _ h => h) (fun _ h => h.sub (.cons _ (List.Sublist.refl _))) (y_load rfl rfl (fun w hw => ((fun w hw => Ro.rd hbk hw) w hw).cell (gM (d := 0) lenP))) ?_
      refine tx_q 33 rfl (by kernel_rfl) rfl rfl rfl (fun _ _ _ h => h) (y_conv8W (a := blk.getD ((4 * i) + 3) 0) rfl rfl rfl) ?_
      refine tx_q 34 rfl (by kernel_rfl) rfl rfl rfl (fun _ _ _ h => h) (y_addW (a := ((((blk.getD (4 * i) 0).toUInt32) <<< UInt32.ofNat 24) + (((blk.getD ((4 * i) + 1) 0).toUInt32) <<< UInt32.ofNat 16)) + (((blk.getD ((4 * i) + 2) 0).toUInt32) <<< UInt32.ofNat 8)) (b := (blk.getD ((4 * i) + 3) 0).toUInt32) rfl rfl) ?_
      refine tx_q 35 rfl (by kernel_rfl) rfl rfl rfl (fun _ _ _ h => h) (y_ixS01 (i := i) rfl rfl (by kernel_rfl) (by omega)) ?_
      refine tx_a 36 rfl (by kernel_rfl) rfl ?_; refine a_storeE (H1 := []) (o := i) (v := W4 ((((((blk.getD (4 * i) 0).toUInt32) <<< UInt32.ofNat 24) + (((blk.getD ((4 * i) + 1) 0).toUInt32) <<< UInt32.ofNat 16)) + (((blk.getD ((4 * i) + 2) 0).toUInt32) <<< UInt32.ofNat 8)) + ((blk.getD ((4 * i) + 3) 0).toUInt32))) (cs' := ((schedZ blk i).set i ((((((blk.getD (4 * i) 0).toUInt32) <<< UInt32.ofNat 24) + (((blk.getD ((4 * i) + 1) 0).toUInt32) <<< UInt32.ofNat 16)) + (((blk.getD ((4 * i) + 2) 0).toUInt32) <<< UInt32.ofNat 8)) + ((blk.getD ((4 * i) + 3) 0).toUInt32))).map W4) rfl rfl (by kernel_rfl) rfl rfl (by first | (simp; done) | (simp; omega)) (sM) ?_
      refine tk_S (fun _ h => h.sub (.cons _ (List.Sublist.refl _))) ?_
      refine tx_done (by kernel_rfl) ?_
      refine tk_in_normal ?_
      refine tk_then ?_
      refine tk_region ?_
      refine tk_q rfl rfl rfl (y_move rfl) ?_
      refine tk_q rfl rfl rfl (y_addN (a := i) (b := 1) rfl rfl (by omega)) ?_
      refine tk_q rfl rfl rfl (y_assign rfl) ?_
      refine tk_nil ?_
      refine tk_H [cel b19 ((schedZ blk (i + 1)).map W4) 161, cel b18 (stepsL.map W4) 161] (congrArg (fun z_ => [cel b19 z_ 161, cel b18 (stepsL.map W4) 161]) (show ((schedZ blk i).set i ((((((blk.getD (4 * i) 0).toUInt32) <<< UInt32.ofNat 24) + (((blk.getD ((4 * i) + 1) 0).toUInt32) <<< UInt32.ofNat 16)) + (((blk.getD ((4 * i) + 2) 0).toUInt32) <<< UInt32.ofNat 8)) + ((blk.getD ((4 * i) + 3) 0).toUInt32))).map W4 = (schedZ blk (i + 1)).map W4 from congrArg (List.map W4) ((congrArg ((schedZ blk i).set i) (word_add blk i).symm).trans (schedZ_lo (by omega) (by omega))))) ?_
      exact tk_again (i + 1) (by first | exact trivial | omega | (dsimp only; omega)) (by first | omega | (dsimp only; omega)) (by repeat (first | exact trivial | refine ⟨rfl, ?_⟩)) (List.Sublist.refl _)
    · skip
      refine tk_seq ?_
      refine tk_drawH [cel b19 ((schedZ blk i).map W4) 161, cel b18 (stepsL.map W4) 161] [] (by kernel_rfl) ?_
      refine tx_q 0 rfl (by kernel_rfl) rfl rfl rfl (fun _ _ _ h => h) (y_move rfl) ?_
      refine tx_q 1 rfl (by kernel_rfl) rfl rfl rfl (fun _ _ _ h => h) (y_move rfl) ?_
      refine tx_q 2 rfl (by kernel_rfl) rfl rfl rfl (fun _ _ _ h => h) (y_subN (a := i) (b := 15) rfl rfl (by omega)) ?_
      refine tx_q 3 rfl (by kernel_rfl) rfl rfl rfl (fun _ _ _ h => h) (y_ixS01 (i := i - 15) rfl rfl (by kernel_rfl) (by omega)) ?_
      refine tx_l 4 rfl (by kernel_rfl) (by kernel_rfl) rfl rfl rfl (fun _ _ _ h => h) (fun _ h => h.sub (List.Sublist.refl _)) (y_load rfl rfl (hc (o := i - 15) (.head _) (gM (d := 0) lenP))) ?_
      refine tx_q 6 rfl (by kernel_rfl) rfl rfl rfl (fun _ _ _ h => h) (y_move rfl) ?_
      refine tx_q 7 rfl (by kernel_rfl) rfl rfl rfl (fun _ _ _ h => h) (y_move rfl) ?_
      refine tx_q 8 rfl (by kernel_rfl) rfl rfl rfl (fun _ _ _ h => h) (y_subN (a := i) (b := 15) rfl rfl (by omega)) ?_
      refine tx_q 9 rfl (by kernel_rfl) rfl rfl rfl (fun _ _ _ h => h) (y_ixS01 (i := i - 15) rfl rfl (by kernel_rfl) (by omega)) ?_
      refine tx_l 10 rfl (by kernel_rfl) (by kernel_rfl) rfl rfl rfl (fun _ _ _ h => h) (fun _ h => h.sub (List.Sublist.refl _)) (y_load rfl rfl (hc (o := i - 15) (.head _) (gM (d := 0) lenP))) ?_
      refine tx_q 13 rfl (by kernel_rfl) rfl rfl rfl (fun _ _ _ h => h) (y_move rfl) ?_
      refine tx_q 14 rfl (by kernel_rfl) rfl rfl rfl (fun _ _ _ h => h) (y_move rfl) ?_
      refine tx_q 15 rfl (by kernel_rfl) rfl rfl rfl (fun _ _ _ h => h) (y_subN (a := i) (b := 15) rfl rfl (by omega)) ?_
      refine tx_q 16 rfl (by kernel_rfl) rfl rfl rfl (fun _ _ _ h => h) (y_ixS01 (i := i - 15) rfl rfl (by kernel_rfl) (by omega)) ?_
      refine tx_l 17 rfl (by kernel_rfl) (by kernel_rfl) rfl rfl rfl (fun _ _ _ h => h) (fun _ h => h.sub (List.Sublist.refl _)) (y_load rfl rfl (hc (o := i - 15) (.head _) (gM (d := 0) lenP))) ?_
      refine tx_q 18 rfl (by kernel_rfl) rfl rfl rfl (fun _ _ _ h => h) (y_shrW (a := (schedZ blk i).getD (i - 15) 0) (m := 3) rfl rfl (by decide)) ?_
      refine tx_a 5 rfl (by kernel_rfl) rfl ?_; refine a_callv [] _ rfl (by kernel_rfl) rfl (fun w' hw' => right_spec ((schedZ blk i).getD (i - 15) 0) 7 (by decide)) rfl fun _ _ => ?_
      refine tk_S (fun _ h => h.sub (List.Sublist.refl _)) ?_
      refine tx_a 11 rfl (by kernel_rfl) rfl ?_; refine a_callv [] _ rfl (by kernel_rfl) rfl (fun w' hw' => right_spec ((schedZ blk i).getD (i - 15) 0) 18 (by decide)) rfl fun _ _ => ?_
      refine tk_S (fun _ h => h.sub (List.Sublist.refl _)) ?_
      refine tx_q 12 rfl (by kernel_rfl) rfl rfl rfl (fun _ _ _ h => h) (y_xorW (a := rr ((schedZ blk i).getD (i - 15) 0) 7) (b := rr ((schedZ blk i).getD (i - 15) 0) 18) rfl rfl) ?_
      refine tx_q 19 rfl (by kernel_rfl) rfl rfl rfl (fun _ _ _ h => h) (y_xorW (a := (rr ((schedZ blk i).getD (i - 15) 0) 7) ^^^ (rr ((schedZ blk i).getD (i - 15) 0) 18)) (b := ((schedZ blk i).getD (i - 15) 0) >>> UInt32.ofNat 3) rfl rfl) ?_
      refine tx_q 20 rfl (by kernel_rfl) rfl rfl rfl (fun _ _ _ h => h) (y_assign rfl) ?_
      refine tx_done (by kernel_rfl) ?_
      refine tk_then ?_
      refine tk_seq ?_
      refine tk_drawH [cel b19 ((schedZ blk i).map W4) 161, cel b18 (stepsL.map W4) 161] [] (by kernel_rfl) ?_
      refine tx_q 0 rfl (by kernel_rfl) rfl rfl rfl (fun _ _ _ h => h) (y_move rfl) ?_
      refine tx_q 1 rfl (by kernel_rfl) rfl rfl rfl (fun _ _ _ h => h) (y_move rfl) ?_
      refine tx_q 2 rfl (by kernel_rfl) rfl rfl rfl (fun _ _ _ h => h) (y_subN (a := i) (b := 2) rfl rfl (by omega)) ?_
      refine tx_q 3 rfl (by kernel_rfl) rfl rfl rfl (fun _ _ _ h => h) (y_ixS01 (i := i - 2) rfl rfl (by kernel_rfl) (by omega)) ?_
      refine tx_l 4 rfl (by kernel_rfl) (by kernel_rfl) rfl rfl rfl (fun _ _ _ h => h) (fun _ h => h.sub (List.Sublist.refl _)) (y_load rfl rfl (hc (o := i - 2) (.head _) (gM (d := 0) lenP))) ?_
      refine tx_q 6 rfl (by kernel_rfl) rfl rfl rfl (fun _ _ _ h => h) (y_move rfl) ?_
      refine tx_q 7 rfl (by kernel_rfl) rfl rfl rfl (fun _ _ _ h => h) (y_move rfl) ?_
      refine tx_q 8 rfl (by kernel_rfl) rfl rfl rfl (fun _ _ _ h => h) (y_subN (a := i) (b := 2) rfl rfl (by omega)) ?_
      refine tx_q 9 rfl (by kernel_rfl) rfl rfl rfl (fun _ _ _ h => h) (y_ixS01 (i := i - 2) rfl rfl (by kernel_rfl) (by omega)) ?_
      refine tx_l 10 rfl (by kernel_rfl) (by kernel_rfl) rfl rfl rfl (fun _ _ _ h => h) (fun _ h => h.sub (List.Sublist.refl _)) (y_load rfl rfl (hc (o := i - 2) (.head _) (gM (d := 0) lenP))) ?_
      refine tx_q 13 rfl (by kernel_rfl) rfl rfl rfl (fun _ _ _ h => h) (y_move rfl) ?_
      refine tx_q 14 rfl (by kernel_rfl) rfl rfl rfl (fun _ _ _ h => h) (y_move rfl) ?_
      refine tx_q 15 rfl (by kernel_rfl) rfl rfl rfl (fun _ _ _ h => h) (y_subN (a := i) (b := 2) rfl rfl (by omega)) ?_
      refine tx_q 16 rfl (by kernel_rfl) rfl rfl rfl (fun _ _ _ h => h) (y_ixS01 (i := i - 2) rfl rfl (by kernel_rfl) (by omega)) ?_
      refine tx_l 17 rfl (by kernel_rfl) (by kernel_rfl) rfl rfl rfl (fun _ _ _ h => h) (fun _ h => h.sub (List.Sublist.refl _)) (y_load rfl rfl (hc (o := i - 2) (.head _) (gM (d := 0) lenP))) ?_
      refine tx_q 18 rfl (by kernel_rfl) rfl rfl rfl (fun _ _ _ h => h) (y_shrW (a := (schedZ blk i).getD (i - 2) 0) (m := 10) rfl rfl (by decide)) ?_
      refine tx_a 5 rfl (by kernel_rfl) rfl ?_; refine a_callv [] _ rfl (by kernel_rfl) rfl (fun w' hw' => right_spec ((schedZ blk i).getD (i - 2) 0) 17 (by decide)) rfl fun _ _ => ?_
      refine tk_S (fun _ h => h.sub (List.Sublist.refl _)) ?_
      refine tx_a 11 rfl (by kernel_rfl) rfl ?_; refine a_callv [] _ rfl (by kernel_rfl) rfl (fun w' hw' => right_spec ((schedZ blk i).getD (i - 2) 0) 19 (by decide)) rfl fun _ _ => ?_
      refine tk_S (fun _ h => h.sub (List.Sublist.refl _)) ?_
      refine tx_q 12 rfl (by kernel_rfl) rfl rfl rfl (fun _ _ _ h => h) (y_xorW (a := rr ((schedZ blk i).getD (i - 2) 0) 17) (b := rr ((schedZ blk i).getD (i - 2) 0) 19) rfl rfl) ?_
      refine tx_q 19 rfl (by kernel_rfl) rfl rfl rfl (fun _ _ _ h => h) (y_xorW (a := (rr ((schedZ blk i).getD (i - 2) 0) 17) ^^^ (rr ((schedZ blk i).getD (i - 2) 0) 19)) (b := ((schedZ blk i).getD (i - 2) 0) >>> UInt32.ofNat 10) rfl rfl) ?_
      refine tx_q 20 rfl (by kernel_rfl) rfl rfl rfl (fun _ _ _ h => h) (y_assign rfl) ?_
      refine tx_done (by kernel_rfl) ?_
      refine tk_then ?_
      refine tk_drawH [cel b19 ((schedZ blk i).map W4) 161, cel b18 (stepsL.map W4) 161] [18] (by kernel_rfl) ?_
      refine tx_q 0 rfl (by kernel_rfl) rfl rfl rfl (fun _ _ _ h => h) (y_move rfl) ?_
      refine tx_q 1 rfl (by kernel_rfl) rfl rfl rfl (fun _ _ _ h => h) (y_move rfl) ?_
      refine tx_q 2 rfl (by kernel_rfl) rfl rfl rfl (fun _ _ _ h => h) (y_move rfl) ?_
      refine tx_q 3 rfl (by kernel_rfl) rfl rfl rfl (fun _ _ _ h => h) (y_move rfl) ?_
      refine tx_q 4 rfl (by kernel_rfl) rfl rfl rfl (fun _ _ _ h => h) (y_subN (a := i) (b := 16) rfl rfl (by omega)) ?_
      refine tx_q 5 rfl (by kernel_rfl) rfl rfl rfl (fun _ _ _ h => h) (y_ixS01 (i := i - 16) rfl rfl (by kernel_rfl) (by omega)) ?_
      refine tx_l 6 rfl (by kernel_rfl) (by kernel_rfl) rfl rfl rfl (fun _ _ _ h => h) (fun _ h => h.sub (List.Sublist.refl _)) (y_load rfl rfl (hc (o := i - 16) (.head _) (gM (d := 0) lenP))) ?_
      refine tx_q 7 rfl (by kernel_rfl) rfl rfl rfl (fun _ _ _ h => h) (y_move rfl) ?_
      refine tx_q 8 rfl (by kernel_rfl) rfl rfl rfl (fun _ _ _ h => h) (y_addW (a := (schedZ blk i).getD (i - 16) 0) (b := ((rr ((schedZ blk i).getD (i - 15) 0) 7) ^^^ (rr ((schedZ blk i).getD (i - 15) 0) 18)) ^^^ (((schedZ blk i).getD (i - 15) 0) >>> UInt32.ofNat 3)) rfl rfl) ?_
      refine tx_q 9 rfl (by kernel_rfl) rfl rfl rfl (fun _ _ _ h => h) (y_move rfl) ?_
      refine tx_q 10 rfl (by kernel_rfl) rfl rfl rfl (fun _ _ _ h => h) (y_move rfl) ?_
      refine tx_q 11 rfl (by kernel_rfl) rfl rfl rfl (fun _ _ _ h => h) (y_subN (a := i) (b := 7) rfl rfl (by omega)) ?_
      refine tx_q 12 rfl (by kernel_rfl) rfl rfl rfl (fun _ _ _ h => h) (y_ixS01 (i := i - 7) rfl rfl (by kernel_rfl) (by omega)) ?_
      refine tx_l 13 rfl (by kernel_rfl) (by kernel_rfl) rfl rfl rfl (fun _ _ _ h => h) (fun _ h => h.sub (List.Sublist.refl _)) (y_load rfl rfl (hc (o := i - 7) (.head _) (gM (d := 0) lenP))) ?_
      refine tx_q 14 rfl (by kernel_rfl) rfl rfl rfl (fun _ _ _ h => h) (y_addW (a := ((schedZ blk i).getD (i - 16) 0) + (((rr ((schedZ blk i).getD (i - 15) 0) 7) ^^^ (rr ((schedZ blk i).getD (i - 15) 0) 18)) ^^^ (((schedZ blk i).getD (i - 15) 0) >>> UInt32.ofNat 3))) (b := (schedZ blk i).getD (i - 7) 0) rfl rfl) ?_
      refine tx_q 15 rfl (by kernel_rfl) rfl rfl rfl (fun _ _ _ h => h) (y_move rfl) ?_
      refine tx_q 16 rfl (by kernel_rfl) rfl rfl rfl (fun _ _ _ h => h) (y_addW (a := (((schedZ blk i).getD (i - 16) 0) + (((rr ((schedZ blk i).getD (i - 15) 0) 7) ^^^ (rr ((schedZ blk i).getD (i - 15) 0) 18)) ^^^ (((schedZ blk i).getD (i - 15) 0) >>> UInt32.ofNat 3))) + ((schedZ blk i).getD (i - 7) 0)) (b := ((rr ((schedZ blk i).getD (i - 2) 0) 17) ^^^ (rr ((schedZ blk i).getD (i - 2) 0) 19)) ^^^ (((schedZ blk i).getD (i - 2) 0) >>> UInt32.ofNat 10)) rfl rfl) ?_
      refine tx_q 17 rfl (by kernel_rfl) rfl rfl rfl (fun _ _ _ h => h) (y_ixS01 (i := i) rfl rfl (by kernel_rfl) (by omega)) ?_
      refine tx_x 18 rfl (by kernel_rfl) rfl rfl ?_; refine a_storeE (H1 := []) (o := i) (v := W4 (((((schedZ blk i).getD (i - 16) 0) + (((rr ((schedZ blk i).getD (i - 15) 0) 7) ^^^ (rr ((schedZ blk i).getD (i - 15) 0) 18)) ^^^ (((schedZ blk i).getD (i - 15) 0) >>> UInt32.ofNat 3))) + ((schedZ blk i).getD (i - 7) 0)) + (((rr ((schedZ blk i).getD (i - 2) 0) 17) ^^^ (rr ((schedZ blk i).getD (i - 2) 0) 19)) ^^^ (((schedZ blk i).getD (i - 2) 0) >>> UInt32.ofNat 10)))) (cs' := ((schedZ blk i).set i (((((schedZ blk i).getD (i - 16) 0) + (((rr ((schedZ blk i).getD (i - 15) 0) 7) ^^^ (rr ((schedZ blk i).getD (i - 15) 0) 18)) ^^^ (((schedZ blk i).getD (i - 15) 0) >>> UInt32.ofNat 3))) + ((schedZ blk i).getD (i - 7) 0)) + (((rr ((schedZ blk i).getD (i - 2) 0) 17) ^^^ (rr ((schedZ blk i).getD (i - 2) 0) 19)) ^^^ (((schedZ blk i).getD (i - 2) 0) >>> UInt32.ofNat 10)))).map W4) rfl rfl (by kernel_rfl) rfl rfl (by first | (simp; done) | (simp; omega)) (sM) ?_
      refine tx_done (by kernel_rfl) ?_
      refine tk_in_normal ?_
      refine tk_then ?_
      refine tk_region ?_
      refine tk_q rfl rfl rfl (y_move rfl) ?_
      refine tk_q rfl rfl rfl (y_addN (a := i) (b := 1) rfl rfl (by omega)) ?_
      refine tk_q rfl rfl rfl (y_assign rfl) ?_
      refine tk_nil ?_
      refine tk_H [cel b19 ((schedZ blk (i + 1)).map W4) 161, cel b18 (stepsL.map W4) 161] (congrArg (fun z_ => [cel b19 z_ 161, cel b18 (stepsL.map W4) 161]) (show ((schedZ blk i).set i (((((schedZ blk i).getD (i - 16) 0) + (((rr ((schedZ blk i).getD (i - 15) 0) 7) ^^^ (rr ((schedZ blk i).getD (i - 15) 0) 18)) ^^^ (((schedZ blk i).getD (i - 15) 0) >>> UInt32.ofNat 3))) + ((schedZ blk i).getD (i - 7) 0)) + (((rr ((schedZ blk i).getD (i - 2) 0) 17) ^^^ (rr ((schedZ blk i).getD (i - 2) 0) 19)) ^^^ (((schedZ blk i).getD (i - 2) 0) >>> UInt32.ofNat 10)))).map W4 = (schedZ blk (i + 1)).map W4 from congrArg (List.map W4) (schedZ_hi' (by omega) (by omega)))) ?_
      exact tk_again (i + 1) (by first | exact trivial | omega | (dsimp only; omega)) (by first | omega | (dsimp only; omega)) (by repeat (first | exact trivial | refine ⟨rfl, ?_⟩)) (List.Sublist.refl _)
  · skip
    refine tk_H [cel b19 ((sched blk 64).map W4) 161, cel b18 (stepsL.map W4) 161] (congrArg (fun z_ => [cel b19 z_ 161, cel b18 (stepsL.map W4) 161]) (show (schedZ blk i).map W4 = (sched blk 64).map W4 from by rw [show i = 64 by omega, schedZ_64])) ?_
    refine tk_exit ?_
    refine tk_then_exit ?_
    refine tk_then_exit ?_
    refine tk_in_hit ?_
    refine tk_then ?_
    refine tk_seq ?_
    refine tk_region ?_
    refine tk_act rfl ?_; refine a_slit0 EL162 rfl fun v120 => ?_
    refine tk_q rfl rfl rfl (y_move rfl) ?_
    refine tk_act rfl ?_; refine a_appM (H1 := []) (f := W4) (l := []) (m := R) rfl rfl EL162 rfl rfl (fun w hw => Ro.rd hr hw) (fun _ => rfl) ⟨lenP, lenP⟩ fun v122 => ?_
    refine tk_own1 (.head _) fun hfv122 => ?_
    refine tk_q rfl rfl rfl (y_assign rfl) ?_
    refine tk_nil ?_
    refine tk_then ?_
    refine tk_seq ?_
    refine tk_seq ?_
    refine tk_region ?_
    refine tk_q rfl rfl rfl (y_assign rfl) ?_
    refine tk_nil ?_
    refine tk_then ?_
    refine tk_block ?_
    refine tk_H [own v122 ((rounds R stepsL (sched blk 64) 0).length) ((rounds R stepsL (sched blk 64) 0).map W4) 161 1, cel b19 ((sched blk 64).map W4) 161, cel b18 (stepsL.map W4) 161] (congrArg (fun z_ => [z_, cel b19 ((sched blk 64).map W4) 161, cel b18 (stepsL.map W4) 161]) (show own v122 R.length (R.map W4) 161 1 = own v122 ((rounds R stepsL (sched blk 64) 0).length) ((rounds R stepsL (sched blk 64) 0).map W4) 161 1 from ownM_cast rounds_0.symm)) ?_
    refine tk_loop (X := Nat × Value) (fun (i, vv) => i ≤ 64) (fun (i, vv) => [(0, rv), (4, .slice none 0 0), (5, .slice (some ⟨b18, 0, none⟩) 64 64), (6, .slice (some ⟨b19, 0, none⟩) 64 64), (10, vv), (11, I ((i : Nat) : Int))]) (fun (i, vv) => [own vv ((rounds R stepsL (sched blk 64) i).length) ((rounds R stepsL (sched blk 64) i).map W4) 161 1, cel b19 ((sched blk 64).map W4) 161, cel b18 (stepsL.map W4) 161]) (fun (i, vv) => 64 - i) ((0, v122)) (by first | exact trivial | omega | (dsimp only; omega)) (by repeat (first | exact trivial | refine ⟨rfl, ?_⟩)) ((List.Sublist.refl _)) ?_
    rintro ⟨i, vv⟩ hI
    try dsimp only at hI ⊢
    have hR : (rounds R stepsL (sched blk 64) i).length = 8 := rounds_len hR8 i
    have hz : (sched blk 64).length = 64 := sched_len _ _
    refine tk_own1 (.head _) fun hfvv => ?_
    refine tk_seq ?_
    refine tk_seq ?_
    refine tk_region ?_
    refine tk_q rfl rfl rfl (y_move rfl) ?_
    refine tk_q rfl rfl rfl (y_lss rfl rfl) ?_
    refine tk_nil ?_
    refine tk_then ?_
    refine tk_condP rfl (fun ht124 => ?_) (fun ht124 => ?_)
    · skip
      refine tk_skip ?_
      refine tk_then ?_
      refine tk_seq ?_
      refine tk_block ?_
      refine tk_seq ?_
      refine tk_drawH [own vv ((rounds R stepsL (sched blk 64) i).length) ((rounds R stepsL (sched blk 64) i).map W4) 161 1, cel b19 ((sched blk 64).map W4) 161, cel b18 (stepsL.map W4) 161] [] (by kernel_rfl) ?_
      refine tx_q 0 rfl (by kernel_rfl) rfl rfl rfl (fun _ _ _ h => h) (y_move rfl) ?_
      refine tx_q 1 rfl (by kernel_rfl) rfl rfl rfl (fun _ _ _ h => h) (y_ixR (j := 4) rfl rfl hfvv.choose_spec lenP (by kernel_rfl)) ?_
      refine tx_l 2 rfl (by kernel_rfl) (by kernel_rfl) rfl rfl rfl (fun _ _ _ h => h) (fun _ h => h.sub (List.Sublist.refl _)) (y_load rfl rfl (fun w hw => ((fun w hw => own_rdS (hw.mem (.head _))) w hw).cell (gM (d := 0) lenP))) ?_
      refine tx_q 4 rfl (by kernel_rfl) rfl rfl rfl (fun _ _ _ h => h) (y_move rfl) ?_
      refine tx_q 5 rfl (by kernel_rfl) rfl rfl rfl (fun _ _ _ h => h) (y_ixR (j := 4) rfl rfl hfvv.choose_spec lenP (by kernel_rfl)) ?_
      refine tx_l 6 rfl (by kernel_rfl) (by kernel_rfl) rfl rfl rfl (fun _ _ _ h => h) (fun _ h => h.sub (List.Sublist.refl _)) (y_load rfl rfl (fun w hw => ((fun w hw => own_rdS (hw.mem (.head _))) w hw).cell (gM (d := 0) lenP))) ?_
      refine tx_q 9 rfl (by kernel_rfl) rfl rfl rfl (fun _ _ _ h => h) (y_move rfl) ?_
      refine tx_q 10 rfl (by kernel_rfl) rfl rfl rfl (fun _ _ _ h => h) (y_ixR (j := 4) rfl rfl hfvv.choose_spec lenP (by kernel_rfl)) ?_
      refine tx_l 11 rfl (by kernel_rfl) (by kernel_rfl) rfl rfl rfl (fun _ _ _ h => h) (fun _ h => h.sub (List.Sublist.refl _)) (y_load rfl rfl (fun w hw => ((fun w hw => own_rdS (hw.mem (.head _))) w hw).cell (gM (d := 0) lenP))) ?_
      refine tx_a 3 rfl (by kernel_rfl) rfl ?_; refine a_callv [] _ rfl (by kernel_rfl) rfl (fun w' hw' => right_spec ((rounds R stepsL (sched blk 64) i).getD 4 0) 6 (by decide)) rfl fun _ _ => ?_
      refine tk_S (fun _ h => h.sub (List.Sublist.refl _)) ?_
      refine tx_a 7 rfl (by kernel_rfl) rfl ?_; refine a_callv [] _ rfl (by kernel_rfl) rfl (fun w' hw' => right_spec ((rounds R stepsL (sched blk 64) i).getD 4 0) 11 (by decide)) rfl fun _ _ => ?_
      refine tk_S (fun _ h => h.sub (List.Sublist.refl _)) ?_
      refine tx_q 8 rfl (by kernel_rfl) rfl rfl rfl (fun _ _ _ h => h) (y_xorW (a := rr ((rounds R stepsL (sched blk 64) i).getD 4 0) 6) (b := rr ((rounds R stepsL (sched blk 64) i).getD 4 0) 11) rfl rfl) ?_
      refine tx_a 12 rfl (by kernel_rfl) rfl ?_; refine a_callv [] _ rfl (by kernel_rfl) rfl (fun w' hw' => right_spec ((rounds R stepsL (sched blk 64) i).getD 4 0) 25 (by decide)) rfl fun _ _ => ?_
      refine tk_S (fun _ h => h.sub (List.Sublist.refl _)) ?_
      refine tx_q 13 rfl (by kernel_rfl) rfl rfl rfl (fun _ _ _ h => h) (y_xorW (a := (rr ((rounds R stepsL (sched blk 64) i).getD 4 0) 6) ^^^ (rr ((rounds R stepsL (sched blk 64) i).getD 4 0) 11)) (b := rr ((rounds R stepsL (sched blk 64) i).getD 4 0) 25) rfl rfl) ?_
      refine tx_q 14 rfl (by kernel_rfl) rfl rfl rfl (fun _ _ _ h => h) (y_assign rfl) ?_
      refine tx_done (by kernel_rfl) ?_
      refine tk_then ?_
      refine tk_seq ?_
      refine tk_drawH [own vv ((rounds R stepsL (sched blk 64) i).length) ((rounds R stepsL (sched blk 64) i).map W4) 161 1, cel b19 ((sched blk 64).map W4) 161, cel b18 (stepsL.map W4) 161] [] (by kernel_rfl) ?_
      refine tx_q 0 rfl (by kernel_rfl) rfl rfl rfl (fun _ _ _ h => h) (y_move rfl) ?_
      refine tx_q 1 rfl (by kernel_rfl) rfl rfl rfl (fun _ _ _ h => h) (y_ixR (j := 0) rfl rfl hfvv.choose_spec lenP (by kernel_rfl)) ?_
      refine tx_l 2 rfl (by kernel_rfl) (by kernel_rfl) rfl rfl rfl (fun _ _ _ h => h) (fun _ h => h.sub (List.Sublist.refl _)) (y_load rfl rfl (fun w hw => ((fun w hw => own_rdS (hw.mem (.head _))) w hw).cell (gM (d := 0) lenP))) ?_
      refine tx_q 4 rfl (by kernel_rfl) rfl rfl rfl (fun _ _ _ h => h) (y_move rfl) ?_
      refine tx_q 5 rfl (by kernel_rfl) rfl rfl rfl (fun _ _ _ h => h) (y_ixR (j := 0) rfl rfl hfvv.choose_spec lenP (by kernel_rfl)) ?_
      refine tx_l 6 rfl (by kernel_rfl) (by kernel_rfl) rfl rfl rfl (fun _ _ _ h => h) (fun _ h => h.sub (List.Sublist.refl _)) (y_load rfl rfl (fun w hw => ((fun w hw => own_rdS (hw.mem (.head _))) w hw).cell (gM (d := 0) lenP))) ?_
      refine tx_q 9 rfl (by kernel_rfl) rfl rfl rfl (fun _ _ _ h => h) (y_move rfl) ?_
      refine tx_q 10 rfl (by kernel_rfl) rfl rfl rfl (fun _ _ _ h => h) (y_ixR (j := 0) rfl rfl hfvv.choose_spec lenP (by kernel_rfl)) ?_
      refine tx_l 11 rfl (by kernel_rfl) (by kernel_rfl) rfl rfl rfl (fun _ _ _ h => h) (fun _ h => h.sub (List.Sublist.refl _)) (y_load rfl rfl (fun w hw => ((fun w hw => own_rdS (hw.mem (.head _))) w hw).cell (gM (d := 0) lenP))) ?_
      refine tx_a 3 rfl (by kernel_rfl) rfl ?_; refine a_callv [] _ rfl (by kernel_rfl) rfl (fun w' hw' => right_spec ((rounds R stepsL (sched blk 64) i).getD 0 0) 2 (by decide)) rfl fun _ _ => ?_
      refine tk_S (fun _ h => h.sub (List.Sublist.refl _)) ?_
      refine tx_a 7 rfl (by kernel_rfl) rfl ?_; refine a_callv [] _ rfl (by kernel_rfl) rfl (fun w' hw' => right_spec ((rounds R stepsL (sched blk 64) i).getD 0 0) 13 (by decide)) rfl fun _ _ => ?_
      refine tk_S (fun _ h => h.sub (List.Sublist.refl _)) ?_
      refine tx_q 8 rfl (by kernel_rfl) rfl rfl rfl (fun _ _ _ h => h) (y_xorW (a := rr ((rounds R stepsL (sched blk 64) i).getD 0 0) 2) (b := rr ((rounds R stepsL (sched blk 64) i).getD 0 0) 13) rfl rfl) ?_
      refine tx_a 12 rfl (by kernel_rfl) rfl ?_; refine a_callv [] _ rfl (by kernel_rfl) rfl (fun w' hw' => right_spec ((rounds R stepsL (sched blk 64) i).getD 0 0) 22 (by decide)) rfl fun _ _ => ?_
      refine tk_S (fun _ h => h.sub (List.Sublist.refl _)) ?_
      refine tx_q 13 rfl (by kernel_rfl) rfl rfl rfl (fun _ _ _ h => h) (y_xorW (a := (rr ((rounds R stepsL (sched blk 64) i).getD 0 0) 2) ^^^ (rr ((rounds R stepsL (sched blk 64) i).getD 0 0) 13)) (b := rr ((rounds R stepsL (sched blk 64) i).getD 0 0) 22) rfl rfl) ?_
      refine tx_q 14 rfl (by kernel_rfl) rfl rfl rfl (fun _ _ _ h => h) (y_assign rfl) ?_
      refine tx_done (by kernel_rfl) ?_
      refine tk_then ?_
      refine tk_seq ?_
      refine tk_drawH [own vv ((rounds R stepsL (sched blk 64) i).length) ((rounds R stepsL (sched blk 64) i).map W4) 161 1, cel b19 ((sched blk 64).map W4) 161, cel b18 (stepsL.map W4) 161] [] (by kernel_rfl) ?_
      refine tx_q 0 rfl (by kernel_rfl) rfl rfl rfl (fun _ _ _ h => h) (y_move rfl) ?_
      refine tx_q 1 rfl (by kernel_rfl) rfl rfl rfl (fun _ _ _ h => h) (y_ixR (j := 4) rfl rfl hfvv.choose_spec lenP (by kernel_rfl)) ?_
      refine tx_l 2 rfl (by kernel_rfl) (by kernel_rfl) rfl rfl rfl (fun _ _ _ h => h) (fun _ h => h.sub (List.Sublist.refl _)) (y_load rfl rfl (fun w hw => ((fun w hw => own_rdS (hw.mem (.head _))) w hw).cell (gM (d := 0) lenP))) ?_
      refine tx_q 3 rfl (by kernel_rfl) rfl rfl rfl (fun _ _ _ h => h) (y_move rfl) ?_
      refine tx_q 4 rfl (by kernel_rfl) rfl rfl rfl (fun _ _ _ h => h) (y_ixR (j := 5) rfl rfl hfvv.choose_spec lenP (by kernel_rfl)) ?_
      refine tx_l 5 rfl (by kernel_rfl) (by kernel_rfl) rfl rfl rfl (fun _ _ _ h => h) (fun _ h => h.sub (List.Sublist.refl _)) (y_load rfl rfl (fun w hw => ((fun w hw => own_rdS (hw.mem (.head _))) w hw).cell (gM (d := 0) lenP))) ?_
      refine tx_q 6 rfl (by kernel_rfl) rfl rfl rfl (fun _ _ _ h => h) (y_andW (a := (rounds R stepsL (sched blk 64) i).getD 4 0) (b := (rounds R stepsL (sched blk 64) i).getD 5 0) rfl rfl) ?_
      refine tx_q 7 rfl (by kernel_rfl) rfl rfl rfl (fun _ _ _ h => h) (y_move rfl) ?_
      refine tx_q 8 rfl (by kernel_rfl) rfl rfl rfl (fun _ _ _ h => h) (y_ixR (j := 4) rfl rfl hfvv.choose_spec lenP (by kernel_rfl)) ?_
      refine tx_l 9 rfl (by kernel_rfl) (by kernel_rfl) rfl rfl rfl (fun _ _ _ h => h) (fun _ h => h.sub (List.Sublist.refl _)) (y_load rfl rfl (fun w hw => ((fun w hw => own_rdS (hw.mem (.head _))) w hw).cell (gM (d := 0) lenP))) ?_
      refine tx_q 10 rfl (by kernel_rfl) rfl rfl rfl (fun _ _ _ h => h) (y_notW (a := (rounds R stepsL (sched blk 64) i).getD 4 0) rfl) ?_
      refine tx_q 11 rfl (by kernel_rfl) rfl rfl rfl (fun _ _ _ h => h) (y_move rfl) ?_
      refine tx_q 12 rfl (by kernel_rfl) rfl rfl rfl (fun _ _ _ h => h) (y_ixR (j := 6) rfl rfl hfvv.choose_spec lenP (by kernel_rfl)) ?_
      refine tx_l 13 rfl (by kernel_rfl) (by kernel_rfl) rfl rfl rfl (fun _ _ _ h => h) (fun _ h => h.sub (List.Sublist.refl _)) (y_load rfl rfl (fun w hw => ((fun w hw => own_rdS (hw.mem (.head _))) w hw).cell (gM (d := 0) lenP))) ?_
      refine tx_q 14 rfl (by kernel_rfl) rfl rfl rfl (fun _ _ _ h => h) (y_andW (a := ~~~((rounds R stepsL (sched blk 64) i).getD 4 0)) (b := (rounds R stepsL (sched blk 64) i).getD 6 0) rfl rfl) ?_
      refine tx_q 15 rfl (by kernel_rfl) rfl rfl rfl (fun _ _ _ h => h) (y_xorW (a := ((rounds R stepsL (sched blk 64) i).getD 4 0) &&& ((rounds R stepsL (sched blk 64) i).getD 5 0)) (b := (~~~((rounds R stepsL (sched blk 64) i).getD 4 0)) &&& ((rounds R stepsL (sched blk 64) i).getD 6 0)) rfl rfl) ?_
      refine tx_q 16 rfl (by kernel_rfl) rfl rfl rfl (fun _ _ _ h => h) (y_assign rfl) ?_
      refine tx_done (by kernel_rfl) ?_
      refine tk_then ?_
      refine tk_seq ?_
      refine tk_drawH [own vv ((rounds R stepsL (sched blk 64) i).length) ((rounds R stepsL (sched blk 64) i).map W4) 161 1, cel b19 ((sched blk 64).map W4) 161, cel b18 (stepsL.map W4) 161] [] (by kernel_rfl) ?_
      refine tx_q 0 rfl (by kernel_rfl) rfl rfl rfl (fun _ _ _ h => h) (y_move rfl) ?_
      refine tx_q 1 rfl (by kernel_rfl) rfl rfl rfl (fun _ _ _ h => h) (y_ixR (j := 0) rfl rfl hfvv.choose_spec lenP (by kernel_rfl)) ?_
      refine tx_l 2 rfl (by kernel_rfl) (by kernel_rfl) rfl rfl rfl (fun _ _ _ h => h) (fun _ h => h.sub (List.Sublist.refl _)) (y_load rfl rfl (fun w hw => ((fun w hw => own_rdS (hw.mem (.head _))) w hw).cell (gM (d := 0) lenP))) ?_
      refine tx_q 3 rfl (by kernel_rfl) rfl rfl rfl (fun _ _ _ h => h) (y_move rfl) ?_
      refine tx_q 4 rfl (by kernel_rfl) rfl rfl rfl (fun _ _ _ h => h) (y_ixR (j := 1) rfl rfl hfvv.choose_spec lenP (by kernel_rfl)) ?_
      refine tx_l 5 rfl (by kernel_rfl) (by kernel_rfl) rfl rfl rfl (fun _ _ _ h => h) (fun _ h => h.sub (List.Sublist.refl _)) (y_load rfl rfl (fun w hw => ((fun w hw => own_rdS (hw.mem (.head _))) w hw).cell (gM (d := 0) lenP))) ?_
      refine tx_q 6 rfl (by kernel_rfl) rfl rfl rfl (fun _ _ _ h => h) (y_andW (a := (rounds R stepsL (sched blk 64) i).getD 0 0) (b := (rounds R stepsL (sched blk 64) i).getD 1 0) rfl rfl) ?_
      refine tx_q 7 rfl (by kernel_rfl) rfl rfl rfl (fun _ _ _ h => h) (y_move rfl) ?_
      refine tx_q 8 rfl (by kernel_rfl) rfl rfl rfl (fun _ _ _ h => h) (y_ixR (j := 0) rfl rfl hfvv.choose_spec lenP (by kernel_rfl)) ?_
      refine tx_l 9 rfl (by kernel_rfl) (by kernel_rfl) rfl rfl rfl (fun _ _ _ h => h) (fun _ h => h.sub (List.Sublist.refl _)) (y_load rfl rfl (fun w hw => ((fun w hw => own_rdS (hw.mem (.head _))) w hw).cell (gM (d := 0) lenP))) ?_
      refine tx_q 10 rfl (by kernel_rfl) rfl rfl rfl (fun _ _ _ h => h) (y_move rfl) ?_
      refine tx_q 11 rfl (by kernel_rfl) rfl rfl rfl (fun _ _ _ h => h) (y_ixR (j := 2) rfl rfl hfvv.choose_spec lenP (by kernel_rfl)) ?_
      refine tx_l 12 rfl (by kernel_rfl) (by kernel_rfl) rfl rfl rfl (fun _ _ _ h => h) (fun _ h => h.sub (List.Sublist.refl _)) (y_load rfl rfl (fun w hw => ((fun w hw => own_rdS (hw.mem (.head _))) w hw).cell (gM (d := 0) lenP))) ?_
      refine tx_q 13 rfl (by kernel_rfl) rfl rfl rfl (fun _ _ _ h => h) (y_andW (a := (rounds R stepsL (sched blk 64) i).getD 0 0) (b := (rounds R stepsL (sched blk 64) i).getD 2 0) rfl rfl) ?_
      refine tx_q 14 rfl (by kernel_rfl) rfl rfl rfl (fun _ _ _ h => h) (y_xorW (a := ((rounds R stepsL (sched blk 64) i).getD 0 0) &&& ((rounds R stepsL (sched blk 64) i).getD 1 0)) (b := ((rounds R stepsL (sched blk 64) i).getD 0 0) &&& ((rounds R stepsL (sched blk 64) i).getD 2 0)) rfl rfl) ?_
      refine tx_q 15 rfl (by kernel_rfl) rfl rfl rfl (fun _ _ _ h => h) (y_move rfl) ?_
      refine tx_q 16 rfl (by kernel_rfl) rfl rfl rfl (fun _ _ _ h => h) (y_ixR (j := 1) rfl rfl hfvv.choose_spec lenP (by kernel_rfl)) ?_
      refine tx_l 17 rfl (by kernel_rfl) (by kernel_rfl) rfl rfl rfl (fun _ _ _ h => h) (fun _ h => h.sub (List.Sublist.refl _)) (y_load rfl rfl (fun w hw => ((fun w hw => own_rdS (hw.mem (.head _))) w hw).cell (gM (d := 0) lenP))) ?_
      refine tx_q 18 rfl (by kernel_rfl) rfl rfl rfl (fun _ _ _ h => h) (y_move rfl) ?_
      refine tx_q 19 rfl (by kernel_rfl) rfl rfl rfl (fun _ _ _ h => h) (y_ixR (j := 2) rfl rfl hfvv.choose_spec lenP (by kernel_rfl)) ?_
      refine tx_l 20 rfl (by kernel_rfl) (by kernel_rfl) rfl rfl rfl (fun _ _ _ h => h) (fun _ h => h.sub (List.Sublist.refl _)) (y_load rfl rfl (fun w hw => ((fun w hw => own_rdS (hw.mem (.head _))) w hw).cell (gM (d := 0) lenP))) ?_
      refine tx_q 21 rfl (by kernel_rfl) rfl rfl rfl (fun _ _ _ h => h) (y_andW (a := (rounds R stepsL (sched blk 64) i).getD 1 0) (b := (rounds R stepsL (sched blk 64) i).getD 2 0) rfl rfl) ?_
      refine tx_q 22 rfl (by kernel_rfl) rfl rfl rfl (fun _ _ _ h => h) (y_xorW (a := (((rounds R stepsL (sched blk 64) i).getD 0 0) &&& ((rounds R stepsL (sched blk 64) i).getD 1 0)) ^^^ (((rounds R stepsL (sched blk 64) i).getD 0 0) &&& ((rounds R stepsL (sched blk 64) i).getD 2 0))) (b := ((rounds R stepsL (sched blk 64) i).getD 1 0) &&& ((rounds R stepsL (sched blk 64) i).getD 2 0)) rfl rfl) ?_
      refine tx_q 23 rfl (by kernel_rfl) rfl rfl rfl (fun _ _ _ h => h) (y_assign rfl) ?_
      refine tx_done (by kernel_rfl) ?_
      refine tk_then ?_
      refine tk_seq ?_
      refine tk_drawH [own vv ((rounds R stepsL (sched blk 64) i).length) ((rounds R stepsL (sched blk 64) i).map W4) 161 1, cel b19 ((sched blk 64).map W4) 161, cel b18 (stepsL.map W4) 161] [] (by kernel_rfl) ?_
      refine tx_q 0 rfl (by kernel_rfl) rfl rfl rfl (fun _ _ _ h => h) (y_move rfl) ?_
      refine tx_q 1 rfl (by kernel_rfl) rfl rfl rfl (fun _ _ _ h => h) (y_ixR (j := 7) rfl rfl hfvv.choose_spec lenP (by kernel_rfl)) ?_
      refine tx_l 2 rfl (by kernel_rfl) (by kernel_rfl) rfl rfl rfl (fun _ _ _ h => h) (fun _ h => h.sub (List.Sublist.refl _)) (y_load rfl rfl (fun w hw => ((fun w hw => own_rdS (hw.mem (.head _))) w hw).cell (gM (d := 0) lenP))) ?_
      refine tx_q 3 rfl (by kernel_rfl) rfl rfl rfl (fun _ _ _ h => h) (y_move rfl) ?_
      refine tx_q 4 rfl (by kernel_rfl) rfl rfl rfl (fun _ _ _ h => h) (y_addW (a := (rounds R stepsL (sched blk 64) i).getD 7 0) (b := ((rr ((rounds R stepsL (sched blk 64) i).getD 4 0) 6) ^^^ (rr ((rounds R stepsL (sched blk 64) i).getD 4 0) 11)) ^^^ (rr ((rounds R stepsL (sched blk 64) i).getD 4 0) 25)) rfl rfl) ?_
      refine tx_q 5 rfl (by kernel_rfl) rfl rfl rfl (fun _ _ _ h => h) (y_move rfl) ?_
      refine tx_q 6 rfl (by kernel_rfl) rfl rfl rfl (fun _ _ _ h => h) (y_addW (a := ((rounds R stepsL (sched blk 64) i).getD 7 0) + (((rr ((rounds R stepsL (sched blk 64) i).getD 4 0) 6) ^^^ (rr ((rounds R stepsL (sched blk 64) i).getD 4 0) 11)) ^^^ (rr ((rounds R stepsL (sched blk 64) i).getD 4 0) 25))) (b := (((rounds R stepsL (sched blk 64) i).getD 4 0) &&& ((rounds R stepsL (sched blk 64) i).getD 5 0)) ^^^ ((~~~((rounds R stepsL (sched blk 64) i).getD 4 0)) &&& ((rounds R stepsL (sched blk 64) i).getD 6 0))) rfl rfl) ?_
      refine tx_q 7 rfl (by kernel_rfl) rfl rfl rfl (fun _ _ _ h => h) (y_move rfl) ?_
      refine tx_q 8 rfl (by kernel_rfl) rfl rfl rfl (fun _ _ _ h => h) (y_move rfl) ?_
      refine tx_q 9 rfl (by kernel_rfl) rfl rfl rfl (fun _ _ _ h => h) (y_ixS01 (i := i) rfl rfl (by kernel_rfl) (by omega)) ?_
      refine tx_l 10 rfl (by kernel_rfl) (by kernel_rfl) rfl rfl rfl (fun _ _ _ h => h) (fun _ h => h.sub (List.Sublist.refl _)) (y_load rfl rfl (hc (o := i) (.tail _ (.tail _ (.head _))) (gM (d := 0) lenP))) ?_
      refine tx_q 11 rfl (by kernel_rfl) rfl rfl rfl (fun _ _ _ h => h) (y_addW (a := (((rounds R stepsL (sched blk 64) i).getD 7 0) + (((rr ((rounds R stepsL (sched blk 64) i).getD 4 0) 6) ^^^ (rr ((rounds R stepsL (sched blk 64) i).getD 4 0) 11)) ^^^ (rr ((rounds R stepsL (sched blk 64) i).getD 4 0) 25))) + ((((rounds R stepsL (sched blk 64) i).getD 4 0) &&& ((rounds R stepsL (sched blk 64) i).getD 5 0)) ^^^ ((~~~((rounds R stepsL (sched blk 64) i).getD 4 0)) &&& ((rounds R stepsL (sched blk 64) i).getD 6 0)))) (b := stepsL.getD i 0) rfl rfl) ?_
      refine tx_q 12 rfl (by kernel_rfl) rfl rfl rfl (fun _ _ _ h => h) (y_move rfl) ?_
      refine tx_q 13 rfl (by kernel_rfl) rfl rfl rfl (fun _ _ _ h => h) (y_move rfl) ?_
      refine tx_q 14 rfl (by kernel_rfl) rfl rfl rfl (fun _ _ _ h => h) (y_ixS01 (i := i) rfl rfl (by kernel_rfl) (by omega)) ?_
      refine tx_l 15 rfl (by kernel_rfl) (by kernel_rfl) rfl rfl rfl (fun _ _ _ h => h) (fun _ h => h.sub (List.Sublist.refl _)) (y_load rfl rfl (hc (o := i) (.tail _ (.head _)) (gM (d := 0) lenP))) ?_
      refine tx_q 16 rfl (by kernel_rfl) rfl rfl rfl (fun _ _ _ h => h) (y_addW (a := ((((rounds R stepsL (sched blk 64) i).getD 7 0) + (((rr ((rounds R stepsL (sched blk 64) i).getD 4 0) 6) ^^^ (rr ((rounds R stepsL (sched blk 64) i).getD 4 0) 11)) ^^^ (rr ((rounds R stepsL (sched blk 64) i).getD 4 0) 25))) + ((((rounds R stepsL (sched blk 64) i).getD 4 0) &&& ((rounds R stepsL (sched blk 64) i).getD 5 0)) ^^^ ((~~~((rounds R stepsL (sched blk 64) i).getD 4 0)) &&& ((rounds R stepsL (sched blk 64) i).getD 6 0)))) + (stepsL.getD i 0)) (b := (sched blk 64).getD i 0) rfl rfl) ?_
      refine tx_q 17 rfl (by kernel_rfl) rfl rfl rfl (fun _ _ _ h => h) (y_assign rfl) ?_
      refine tx_done (by kernel_rfl) ?_
      refine tk_then ?_
      refine tk_drawH [own vv ((rounds R stepsL (sched blk 64) i).length) ((rounds R stepsL (sched blk 64) i).map W4) 161 1, cel b19 ((sched blk 64).map W4) 161, cel b18 (stepsL.map W4) 161] [] (by kernel_rfl) ?_
      refine tx_q 0 rfl (by kernel_rfl) rfl rfl rfl (fun _ _ _ h => h) (y_move rfl) ?_
      refine tx_q 1 rfl (by kernel_rfl) rfl rfl rfl (fun _ _ _ h => h) (y_move rfl) ?_
      refine tx_q 2 rfl (by kernel_rfl) rfl rfl rfl (fun _ _ _ h => h) (y_addW (a := (((((rounds R stepsL (sched blk 64) i).getD 7 0) + (((rr ((rounds R stepsL (sched blk 64) i).getD 4 0) 6) ^^^ (rr ((rounds R stepsL (sched blk 64) i).getD 4 0) 11)) ^^^ (rr ((rounds R stepsL (sched blk 64) i).getD 4 0) 25))) + ((((rounds R stepsL (sched blk 64) i).getD 4 0) &&& ((rounds R stepsL (sched blk 64) i).getD 5 0)) ^^^ ((~~~((rounds R stepsL (sched blk 64) i).getD 4 0)) &&& ((rounds R stepsL (sched blk 64) i).getD 6 0)))) + (stepsL.getD i 0)) + ((sched blk 64).getD i 0)) (b := ((rr ((rounds R stepsL (sched blk 64) i).getD 0 0) 2) ^^^ (rr ((rounds R stepsL (sched blk 64) i).getD 0 0) 13)) ^^^ (rr ((rounds R stepsL (sched blk 64) i).getD 0 0) 22)) rfl rfl) ?_
      refine tx_q 3 rfl (by kernel_rfl) rfl rfl rfl (fun _ _ _ h => h) (y_move rfl) ?_
      refine tx_q 4 rfl (by kernel_rfl) rfl rfl rfl (fun _ _ _ h => h) (y_addW (a := ((((((rounds R stepsL (sched blk 64) i).getD 7 0) + (((rr ((rounds R stepsL (sched blk 64) i).getD 4 0) 6) ^^^ (rr ((rounds R stepsL (sched blk 64) i).getD 4 0) 11)) ^^^ (rr ((rounds R stepsL (sched blk 64) i).getD 4 0) 25))) + ((((rounds R stepsL (sched blk 64) i).getD 4 0) &&& ((rounds R stepsL (sched blk 64) i).getD 5 0)) ^^^ ((~~~((rounds R stepsL (sched blk 64) i).getD 4 0)) &&& ((rounds R stepsL (sched blk 64) i).getD 6 0)))) + (stepsL.getD i 0)) + ((sched blk 64).getD i 0)) + (((rr ((rounds R stepsL (sched blk 64) i).getD 0 0) 2) ^^^ (rr ((rounds R stepsL (sched blk 64) i).getD 0 0) 13)) ^^^ (rr ((rounds R stepsL (sched blk 64) i).getD 0 0) 22))) (b := ((((rounds R stepsL (sched blk 64) i).getD 0 0) &&& ((rounds R stepsL (sched blk 64) i).getD 1 0)) ^^^ (((rounds R stepsL (sched blk 64) i).getD 0 0) &&& ((rounds R stepsL (sched blk 64) i).getD 2 0))) ^^^ (((rounds R stepsL (sched blk 64) i).getD 1 0) &&& ((rounds R stepsL (sched blk 64) i).getD 2 0))) rfl rfl) ?_
      refine tx_q 5 rfl (by kernel_rfl) rfl rfl rfl (fun _ _ _ h => h) (y_move rfl) ?_
      refine tx_q 6 rfl (by kernel_rfl) rfl rfl rfl (fun _ _ _ h => h) (y_ixR (j := 0) rfl rfl hfvv.choose_spec lenP (by kernel_rfl)) ?_
      refine tx_l 7 rfl (by kernel_rfl) (by kernel_rfl) rfl rfl rfl (fun _ _ _ h => h) (fun _ h => h.sub (List.Sublist.refl _)) (y_load rfl rfl (fun w hw => ((fun w hw => own_rdS (hw.mem (.head _))) w hw).cell (gM (d := 0) lenP))) ?_
      refine tx_q 8 rfl (by kernel_rfl) rfl rfl rfl (fun _ _ _ h => h) (y_move rfl) ?_
      refine tx_q 9 rfl (by kernel_rfl) rfl rfl rfl (fun _ _ _ h => h) (y_ixR (j := 1) rfl rfl hfvv.choose_spec lenP (by kernel_rfl)) ?_
      refine tx_l 10 rfl (by kernel_rfl) (by kernel_rfl) rfl rfl rfl (fun _ _ _ h => h) (fun _ h => h.sub (List.Sublist.refl _)) (y_load rfl rfl (fun w hw => ((fun w hw => own_rdS (hw.mem (.head _))) w hw).cell (gM (d := 0) lenP))) ?_
      refine tx_q 11 rfl (by kernel_rfl) rfl rfl rfl (fun _ _ _ h => h) (y_move rfl) ?_
      refine tx_q 12 rfl (by kernel_rfl) rfl rfl rfl (fun _ _ _ h => h) (y_ixR (j := 2) rfl rfl hfvv.choose_spec lenP (by kernel_rfl)) ?_
      refine tx_l 13 rfl (by kernel_rfl) (by kernel_rfl) rfl rfl rfl (fun _ _ _ h => h) (fun _ h => h.sub (List.Sublist.refl _)) (y_load rfl rfl (fun w hw => ((fun w hw => own_rdS (hw.mem (.head _))) w hw).cell (gM (d := 0) lenP))) ?_
      refine tx_q 14 rfl (by kernel_rfl) rfl rfl rfl (fun _ _ _ h => h) (y_move rfl) ?_
      refine tx_q 15 rfl (by kernel_rfl) rfl rfl rfl (fun _ _ _ h => h) (y_ixR (j := 3) rfl rfl hfvv.choose_spec lenP (by kernel_rfl)) ?_
      refine tx_l 16 rfl (by kernel_rfl) (by kernel_rfl) rfl rfl rfl (fun _ _ _ h => h) (fun _ h => h.sub (List.Sublist.refl _)) (y_load rfl rfl (fun w hw => ((fun w hw => own_rdS (hw.mem (.head _))) w hw).cell (gM (d := 0) lenP))) ?_
      refine tx_q 17 rfl (by kernel_rfl) rfl rfl rfl (fun _ _ _ h => h) (y_move rfl) ?_
      refine tx_q 18 rfl (by kernel_rfl) rfl rfl rfl (fun _ _ _ h => h) (y_addW (a := (rounds R stepsL (sched blk 64) i).getD 3 0) (b := (((((rounds R stepsL (sched blk 64) i).getD 7 0) + (((rr ((rounds R stepsL (sched blk 64) i).getD 4 0) 6) ^^^ (rr ((rounds R stepsL (sched blk 64) i).getD 4 0) 11)) ^^^ (rr ((rounds R stepsL (sched blk 64) i).getD 4 0) 25))) + ((((rounds R stepsL (sched blk 64) i).getD 4 0) &&& ((rounds R stepsL (sched blk 64) i).getD 5 0)) ^^^ ((~~~((rounds R stepsL (sched blk 64) i).getD 4 0)) &&& ((rounds R stepsL (sched blk 64) i).getD 6 0)))) + (stepsL.getD i 0)) + ((sched blk 64).getD i 0)) rfl rfl) ?_
      refine tx_q 19 rfl (by kernel_rfl) rfl rfl rfl (fun _ _ _ h => h) (y_move rfl) ?_
      refine tx_q 20 rfl (by kernel_rfl) rfl rfl rfl (fun _ _ _ h => h) (y_ixR (j := 4) rfl rfl hfvv.choose_spec lenP (by kernel_rfl)) ?_
      refine tx_l 21 rfl (by kernel_rfl) (by kernel_rfl) rfl rfl rfl (fun _ _ _ h => h) (fun _ h => h.sub (List.Sublist.refl _)) (y_load rfl rfl (fun w hw => ((fun w hw => own_rdS (hw.mem (.head _))) w hw).cell (gM (d := 0) lenP))) ?_
      refine tx_q 22 rfl (by kernel_rfl) rfl rfl rfl (fun _ _ _ h => h) (y_move rfl) ?_
      refine tx_q 23 rfl (by kernel_rfl) rfl rfl rfl (fun _ _ _ h => h) (y_ixR (j := 5) rfl rfl hfvv.choose_spec lenP (by kernel_rfl)) ?_
      refine tx_l 24 rfl (by kernel_rfl) (by kernel_rfl) rfl rfl rfl (fun _ _ _ h => h) (fun _ h => h.sub (List.Sublist.refl _)) (y_load rfl rfl (fun w hw => ((fun w hw => own_rdS (hw.mem (.head _))) w hw).cell (gM (d := 0) lenP))) ?_
      refine tx_q 25 rfl (by kernel_rfl) rfl rfl rfl (fun _ _ _ h => h) (y_move rfl) ?_
      refine tx_q 26 rfl (by kernel_rfl) rfl rfl rfl (fun _ _ _ h => h) (y_ixR (j := 6) rfl rfl hfvv.choose_spec lenP (by kernel_rfl)) ?_
      refine tx_l 27 rfl (by kernel_rfl) (by kernel_rfl) rfl rfl rfl (fun _ _ _ h => h) (fun _ h => h.sub (List.Sublist.refl _)) (y_load rfl rfl (fun w hw => ((fun w hw => own_rdS (hw.mem (.head _))) w hw).cell (gM (d := 0) lenP))) ?_
      refine tx_a 28 rfl (by kernel_rfl) rfl ?_; refine a_slitN (vs := [W4 ((((((((rounds R stepsL (sched blk 64) i).getD 7 0) + (((rr ((rounds R stepsL (sched blk 64) i).getD 4 0) 6) ^^^ (rr ((rounds R stepsL (sched blk 64) i).getD 4 0) 11)) ^^^ (rr ((rounds R stepsL (sched blk 64) i).getD 4 0) 25))) + ((((rounds R stepsL (sched blk 64) i).getD 4 0) &&& ((rounds R stepsL (sched blk 64) i).getD 5 0)) ^^^ ((~~~((rounds R stepsL (sched blk 64) i).getD 4 0)) &&& ((rounds R stepsL (sched blk 64) i).getD 6 0)))) + (stepsL.getD i 0)) + ((sched blk 64).getD i 0)) + (((rr ((rounds R stepsL (sched blk 64) i).getD 0 0) 2) ^^^ (rr ((rounds R stepsL (sched blk 64) i).getD 0 0) 13)) ^^^ (rr ((rounds R stepsL (sched blk 64) i).getD 0 0) 22))) + (((((rounds R stepsL (sched blk 64) i).getD 0 0) &&& ((rounds R stepsL (sched blk 64) i).getD 1 0)) ^^^ (((rounds R stepsL (sched blk 64) i).getD 0 0) &&& ((rounds R stepsL (sched blk 64) i).getD 2 0))) ^^^ (((rounds R stepsL (sched blk 64) i).getD 1 0) &&& ((rounds R stepsL (sched blk 64) i).getD 2 0)))), W4 ((rounds R stepsL (sched blk 64) i).getD 0 0), W4 ((rounds R stepsL (sched blk 64) i).getD 1 0), W4 ((rounds R stepsL (sched blk 64) i).getD 2 0), W4 (((rounds R stepsL (sched blk 64) i).getD 3 0) + ((((((rounds R stepsL (sched blk 64) i).getD 7 0) + (((rr ((rounds R stepsL (sched blk 64) i).getD 4 0) 6) ^^^ (rr ((rounds R stepsL (sched blk 64) i).getD 4 0) 11)) ^^^ (rr ((rounds R stepsL (sched blk 64) i).getD 4 0) 25))) + ((((rounds R stepsL (sched blk 64) i).getD 4 0) &&& ((rounds R stepsL (sched blk 64) i).getD 5 0)) ^^^ ((~~~((rounds R stepsL (sched blk 64) i).getD 4 0)) &&& ((rounds R stepsL (sched blk 64) i).getD 6 0)))) + (stepsL.getD i 0)) + ((sched blk 64).getD i 0))), W4 ((rounds R stepsL (sched blk 64) i).getD 4 0), W4 ((rounds R stepsL (sched blk 64) i).getD 5 0), W4 ((rounds R stepsL (sched blk 64) i).getD 6 0)]) rfl (List.forall_mem_cons.2 ⟨rfl, (List.forall_mem_cons.2 ⟨rfl, (List.forall_mem_cons.2 ⟨rfl, (List.forall_mem_cons.2 ⟨rfl, (List.forall_mem_cons.2 ⟨rfl, (List.forall_mem_cons.2 ⟨rfl, (List.forall_mem_cons.2 ⟨rfl, (List.forall_mem_cons.2 ⟨rfl, (fun _ h => nomatch h)⟩)⟩)⟩)⟩)⟩)⟩)⟩)⟩) (EL162) rfl rfl (by decide) fun b239 => ?_
      refine tk_S (fun _ h => h.sub (.cons _ (List.Sublist.refl _))) ?_
      refine tx_q 29 rfl (by kernel_rfl) rfl rfl rfl (fun _ _ _ h => h) (y_assign rfl) ?_
      refine tx_done (by kernel_rfl) ?_
      refine tk_in_normal ?_
      refine tk_then ?_
      refine tk_region ?_
      refine tk_q rfl rfl rfl (y_move rfl) ?_
      refine tk_q rfl rfl rfl (y_addN (a := i) (b := 1) rfl rfl (by omega)) ?_
      refine tk_q rfl rfl rfl (y_assign rfl) ?_
      refine tk_nil ?_
      refine tk_H [cel b239 ((rounds R stepsL (sched blk 64) (i + 1)).map W4) 161, own vv ((rounds R stepsL (sched blk 64) i).length) ((rounds R stepsL (sched blk 64) i).map W4) 161 1, cel b19 ((sched blk 64).map W4) 161, cel b18 (stepsL.map W4) 161] (congrArg (fun z => [cel b239 z 161, own vv ((rounds R stepsL (sched blk 64) i).length) ((rounds R stepsL (sched blk 64) i).map W4) 161 1, cel b19 ((sched blk 64).map W4) 161, cel b18 (stepsL.map W4) 161]) (show [W4 ((((((((rounds R stepsL (sched blk 64) i).getD 7 0) + (((rr ((rounds R stepsL (sched blk 64) i).getD 4 0) 6) ^^^ (rr ((rounds R stepsL (sched blk 64) i).getD 4 0) 11)) ^^^ (rr ((rounds R stepsL (sched blk 64) i).getD 4 0) 25))) + ((((rounds R stepsL (sched blk 64) i).getD 4 0) &&& ((rounds R stepsL (sched blk 64) i).getD 5 0)) ^^^ ((~~~((rounds R stepsL (sched blk 64) i).getD 4 0)) &&& ((rounds R stepsL (sched blk 64) i).getD 6 0)))) + (stepsL.getD i 0)) + ((sched blk 64).getD i 0)) + (((rr ((rounds R stepsL (sched blk 64) i).getD 0 0) 2) ^^^ (rr ((rounds R stepsL (sched blk 64) i).getD 0 0) 13)) ^^^ (rr ((rounds R stepsL (sched blk 64) i).getD 0 0) 22))) + (((((rounds R stepsL (sched blk 64) i).getD 0 0) &&& ((rounds R stepsL (sched blk 64) i).getD 1 0)) ^^^ (((rounds R stepsL (sched blk 64) i).getD 0 0) &&& ((rounds R stepsL (sched blk 64) i).getD 2 0))) ^^^ (((rounds R stepsL (sched blk 64) i).getD 1 0) &&& ((rounds R stepsL (sched blk 64) i).getD 2 0)))), W4 ((rounds R stepsL (sched blk 64) i).getD 0 0), W4 ((rounds R stepsL (sched blk 64) i).getD 1 0), W4 ((rounds R stepsL (sched blk 64) i).getD 2 0), W4 (((rounds R stepsL (sched blk 64) i).getD 3 0) + ((((((rounds R stepsL (sched blk 64) i).getD 7 0) + (((rr ((rounds R stepsL (sched blk 64) i).getD 4 0) 6) ^^^ (rr ((rounds R stepsL (sched blk 64) i).getD 4 0) 11)) ^^^ (rr ((rounds R stepsL (sched blk 64) i).getD 4 0) 25))) + ((((rounds R stepsL (sched blk 64) i).getD 4 0) &&& ((rounds R stepsL (sched blk 64) i).getD 5 0)) ^^^ ((~~~((rounds R stepsL (sched blk 64) i).getD 4 0)) &&& ((rounds R stepsL (sched blk 64) i).getD 6 0)))) + (stepsL.getD i 0)) + ((sched blk 64).getD i 0))), W4 ((rounds R stepsL (sched blk 64) i).getD 4 0), W4 ((rounds R stepsL (sched blk 64) i).getD 5 0), W4 ((rounds R stepsL (sched blk 64) i).getD 6 0)] = (rounds R stepsL (sched blk 64) (i + 1)).map W4 from congrArg (List.map W4) ((rstep_ref (rounds R stepsL (sched blk 64) i) (stepsL.getD i 0) ((sched blk 64).getD i 0) rfl rfl rfl rfl rfl).trans rounds_succ.symm))) ?_
      refine tk_celM (H1 := []) (T := 161) (f := W4) (l := rounds R stepsL (sched blk 64) (i + 1)) rfl (rounds_len hR8 (i + 1)) (by decide) ?_
      exact tk_again ((i + 1, .slice (some ⟨b239, 0, none⟩) 8 8)) (by first | exact trivial | omega | (dsimp only; omega)) (by first | omega | (dsimp only; omega)) (by repeat (first | exact trivial | refine ⟨rfl, ?_⟩)) (.cons_cons _ (.cons _ (List.Sublist.refl _)))
    · skip
      refine tk_exit ?_
      refine tk_then_exit ?_
      refine tk_then_exit ?_
      refine tk_in_hit ?_
      refine tk_then ?_
      refine tk_seq ?_
      refine tk_seq ?_
      refine tk_region ?_
      refine tk_q rfl rfl rfl (y_assign rfl) ?_
      refine tk_nil ?_
      refine tk_then ?_
      refine tk_block ?_
      refine tk_H [own vv ((addI (rounds R stepsL (sched blk 64) 64) R 0).length) ((addI (rounds R stepsL (sched blk 64) 64) R 0).map W4) 161 1, cel b19 ((sched blk 64).map W4) 161, cel b18 (stepsL.map W4) 161] (congrArg (fun z_ => [z_, cel b19 ((sched blk 64).map W4) 161, cel b18 (stepsL.map W4) 161]) (show own vv ((rounds R stepsL (sched blk 64) i).length) ((rounds R stepsL (sched blk 64) i).map W4) 161 1 = own vv ((addI (rounds R stepsL (sched blk 64) 64) R 0).length) ((addI (rounds R stepsL (sched blk 64) 64) R 0).map W4) 161 1 from ownM_cast (by rw [show i = 64 by omega, addI_0 (rounds_len hR8 64)]))) ?_
      refine tk_loop (X := Nat) (fun i => i ≤ 8) (fun i => [(0, rv), (4, .slice none 0 0), (10, vv), (17, I ((i : Nat) : Int))]) (fun i => [own vv ((addI (rounds R stepsL (sched blk 64) 64) R i).length) ((addI (rounds R stepsL (sched blk 64) 64) R i).map W4) 161 1, cel b19 ((sched blk 64).map W4) 161, cel b18 (stepsL.map W4) 161]) (fun i => 8 - i) (0) (by first | exact trivial | omega | (dsimp only; omega)) (by repeat (first | exact trivial | refine ⟨rfl, ?_⟩)) ((List.Sublist.refl _)) ?_
      rintro i hI
      try dsimp only at hI ⊢
      have ha : (addI (rounds R stepsL (sched blk 64) 64) R i).length = 8 := addI_len
      refine tk_own1 (.head _) fun hfvv => ?_
      refine tk_seq ?_
      refine tk_seq ?_
      refine tk_region ?_
      refine tk_q rfl rfl rfl (y_move rfl) ?_
      refine tk_q rfl rfl rfl (y_lss rfl rfl) ?_
      refine tk_nil ?_
      refine tk_then ?_
      refine tk_condP rfl (fun ht241 => ?_) (fun ht241 => ?_)
      · skip
        refine tk_skip ?_
        refine tk_then ?_
        refine tk_seq ?_
        refine tk_block ?_
        refine tk_drawH [own vv ((addI (rounds R stepsL (sched blk 64) 64) R i).length) ((addI (rounds R stepsL (sched blk 64) 64) R i).map W4) 161 1, cel b19 ((sched blk 64).map W4) 161, cel b18 (stepsL.map W4) 161] [12] (by kernel_rfl) ?_
        refine tx_q 0 rfl (by kernel_rfl) rfl rfl rfl (fun _ _ _ h => h) (y_move rfl) ?_
        refine tx_q 1 rfl (by kernel_rfl) rfl rfl rfl (fun _ _ _ h => h) (y_move rfl) ?_
        refine tx_q 2 rfl (by kernel_rfl) rfl rfl rfl (fun _ _ _ h => h) (y_move rfl) ?_
        refine tx_q 3 rfl (by kernel_rfl) rfl rfl rfl (fun _ _ _ h => h) (y_move rfl) ?_
        refine tx_q 4 rfl (by kernel_rfl) rfl rfl rfl (fun _ _ _ h => h) (y_ixR (j := i) rfl rfl hfvv.choose_spec lenP (by kernel_rfl)) ?_
        refine tx_l 5 rfl (by kernel_rfl) (by kernel_rfl) rfl rfl rfl (fun _ _ _ h => h) (fun _ h => h.sub (List.Sublist.refl _)) (y_load rfl rfl (fun w hw => ((fun w hw => own_rdS (hw.mem (.head _))) w hw).cell (gM (d := 0) lenP))) ?_
        refine tx_q 6 rfl (by kernel_rfl) rfl rfl rfl (fun _ _ _ h => h) (y_move rfl) ?_
        refine tx_q 7 rfl (by kernel_rfl) rfl rfl rfl (fun _ _ _ h => h) (y_move rfl) ?_
        refine tx_q 8 rfl (by kernel_rfl) rfl rfl rfl (fun _ _ _ h => h) (y_ixR (j := i) rfl rfl hr.1 lenP (by kernel_rfl)) ?_
        refine tx_l 9 rfl (by kernel_rfl) (by kernel_rfl) rfl rfl rfl (fun _ _ _ h => h) (fun _ h => h.sub (List.Sublist.refl _)) (y_load rfl rfl (fun w hw => ((fun w hw => Ro.rd hr hw) w hw).cell (gM (d := 0) lenP))) ?_
        refine tx_q 10 rfl (by kernel_rfl) rfl rfl rfl (fun _ _ _ h => h) (y_addW (a := (addI (rounds R stepsL (sched blk 64) 64) R i).getD i 0) (b := R.getD i 0) rfl rfl) ?_
        refine tx_q 11 rfl (by kernel_rfl) rfl rfl rfl (fun _ _ _ h => h) (y_ixR (j := i) rfl rfl hfvv.choose_spec lenP (by kernel_rfl)) ?_
        refine tx_x 12 rfl (by kernel_rfl) rfl rfl ?_; refine a_storeM (H1 := []) (f := W4) (l := addI (rounds R stepsL (sched blk 64) 64) R i) (i := i) (q := ((addI (rounds R stepsL (sched blk 64) 64) R i).getD i 0) + (R.getD i 0)) rfl rfl rfl (by kernel_rfl) rfl lenP ?_
        refine tx_done (by kernel_rfl) ?_
        refine tk_in_normal ?_
        refine tk_then ?_
        refine tk_region ?_
        refine tk_q rfl rfl rfl (y_move rfl) ?_
        refine tk_q rfl rfl rfl (y_addN (a := i) (b := 1) rfl rfl (by omega)) ?_
        refine tk_q rfl rfl rfl (y_assign rfl) ?_
        refine tk_nil ?_
        refine tk_H [own vv ((addI (rounds R stepsL (sched blk 64) 64) R (i + 1)).length) ((addI (rounds R stepsL (sched blk 64) 64) R (i + 1)).map W4) 161 1, cel b19 ((sched blk 64).map W4) 161, cel b18 (stepsL.map W4) 161] (congrArg (fun z_ => [z_, cel b19 ((sched blk 64).map W4) 161, cel b18 (stepsL.map W4) 161]) (show own vv (((addI (rounds R stepsL (sched blk 64) 64) R i).set i (((addI (rounds R stepsL (sched blk 64) 64) R i).getD i 0) + (R.getD i 0))).length) (((addI (rounds R stepsL (sched blk 64) 64) R i).set i (((addI (rounds R stepsL (sched blk 64) 64) R i).getD i 0) + (R.getD i 0))).map W4) 161 1 = own vv ((addI (rounds R stepsL (sched blk 64) 64) R (i + 1)).length) ((addI (rounds R stepsL (sched blk 64) 64) R (i + 1)).map W4) 161 1 from ownM_cast (addI_set (by omega)))) ?_
        exact tk_again (i + 1) (by first | exact trivial | omega | (dsimp only; omega)) (by first | omega | (dsimp only; omega)) (by repeat (first | exact trivial | refine ⟨rfl, ?_⟩)) (List.Sublist.refl _)
      · skip
        refine tk_exit ?_
        refine tk_then_exit ?_
        refine tk_then_exit ?_
        refine tk_in_hit ?_
        refine tk_then ?_
        refine tk_seq ?_
        refine tk_region ?_
        refine tk_q rfl rfl rfl (y_move rfl) ?_
        refine tk_q rfl rfl rfl (y_assign rfl) ?_
        refine tk_nil ?_
        refine tk_then ?_
        refine tk_retc ?_
        refine tk_H [own vv ((blockF R blk).length) ((blockF R blk).map W4) 161 1, cel b19 ((sched blk 64).map W4) 161, cel b18 (stepsL.map W4) 161] (congrArg (fun z_ => [z_, cel b19 ((sched blk 64).map W4) 161, cel b18 (stepsL.map W4) 161]) (show own vv ((addI (rounds R stepsL (sched blk 64) 64) R i).length) ((addI (rounds R stepsL (sched blk 64) 64) R i).map W4) 161 1 = own vv ((blockF R blk).length) ((blockF R blk).map W4) 161 1 from ownM_cast (by rw [show i = 8 by omega, addI_comm, blockF]))) ?_
        exact tk_ret (vv) (trivial) (.inl rfl) (r1 rfl rfl) (.cons_cons _ (List.nil_sublist _))
end Go.Proofs.YtfofkjajlfphjaaDoor

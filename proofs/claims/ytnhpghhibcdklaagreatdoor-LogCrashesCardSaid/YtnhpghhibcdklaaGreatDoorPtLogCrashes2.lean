/- Texts of the claim LogCrashes, part 2 of 6: SumA, SumB, SumC, SumD, RowKitZ, CipPure, CipPlus, CipRef, CipRefB, CipRefC, CipApp, WaxPure, KeyPure, PackPure, EngThree, EngFour, IndexPure, RowKitG, EngFive, LogPure, RowKitH, RowKitL, RowKitN, KeyA, KeyB, KeyC, KeyD, KeyE, KeyF, CipA, CipB, CipC. Own work. -/
import Derived.Deep.SlicePairs
import Derived.Deep.Slices
import Derived.KernelRfl
import Derived.LaidMore
import Derived.Lay
import Derived.Lib.AppendZeros
import Derived.MakeChecks
import Derived.MapKept
import Derived.Maps.RangeRun
import Derived.SevenTiedAt
import Derived.Stop.Joined
import Derived.Test.YtnhpghhibcdklaaGreatDoorCards
import Derived.Test.YtnhpghhibcdklaaGreatDoorTie
import Derived.Test.YtnhpghhibcdklaaGreatDoorPtLogCrashes1
set_option linter.unusedSimpArgs false
set_option linter.unusedVariables false
namespace Go.Proofs.YtnhpghhibcdklaaGreatDoor
open Go Go.RowKit
set_option maxRecDepth 100000
attribute [local irreducible] sched schedZ rounds rr addI blockF
theorem stepsL_len : stepsL.length = 64 := rfl
/-- the words that the program lays -/
def glob : Res where
  fp k := k = 0 ∨ k = 1
  holds w := (∀ (j : Nat) (v : Value), (beginL.map W4)[j]? = some v → w.cell? ⟨0, j, none⟩ = some v) ∧ (∀ (j : Nat) (v : Value), (stepsL.map W4)[j]? = some v → w.cell? ⟨1, j, none⟩ = some v)
  loc w w' h hh := ⟨fun j v hv => by
    have := hh.1 j v hv
    simp only [World.cell?] at this ⊢
    rw [h 0 (.inl rfl)]; exact this, fun j v hv => by
    have := hh.2 j v hv
    simp only [World.cell?] at this ⊢
    rw [h 1 (.inr rfl)]; exact this⟩
  bnd w hh k hk := by
    rcases hk with rfl | rfl
    · exact World.block_lt_of_cell? w _ (hh.1 0 _ rfl)
    · exact World.block_lt_of_cell? w _ (hh.2 0 _ rfl)
theorem rot_and {n : Nat} (h : 1 ≤ n ∧ n ≤ 31) : Value.int .u64 (bits .and .u64 (IntKind.u64.wrap (-((n : Nat) : Int))) 31) = .int .u64 ((32 - n : Nat) : Int) := by
  have e1 : IntKind.u64.wrap (-((n : Nat) : Int)) = ((18446744073709551616 - n : Nat) : Int) := by rw [IntKind.wrap_u64]; omega
  have e2 : (31 : Int) = ((31 : Nat) : Int) := rfl
  rw [e1, e2, u64_and_nat _ _ oM oM]
  have e3 : (18446744073709551616 - n) &&& 31 = (18446744073709551616 - n) % 32 := Nat.and_two_pow_sub_one_eq_mod _ 5
  rw [e3]; congr 1; omega
theorem rot_sub {n : Nat} (h : 1 ≤ n ∧ n ≤ 31) : Value.int .u64 (IntKind.u64.wrap (32 - ((32 - n : Nat) : Int))) = .int .u64 ((n : Nat) : Int) := by
  rw [IntKind.wrap_u64]; congr 1; omega
theorem rot_spec (a : UInt32) (n : Nat) {w : World} (h : 1 ≤ n ∧ n ≤ 31) : Spec Tryz.prog 269 [W4 a, I (-((n : Nat) : Int))] w [] (fun _ : Unit => True) (fun _ => W4 (rr a n)) (fun _ => []) := by
  exact spec_of (n := 17) Tryz.func269 rfl rfl trivial trivial rfl <| s_r <| q_a rfl rfl <| s_n <| s_r <| q_m rfl rfl <| s_q rfl (y_conv rfl rfl rfl) <| s_q rfl ((y_bits rfl rfl sI).cast (rot_and h)) <| q_a rfl rfl <| s_n <| s_r <| q_m rfl rfl <| q_m rfl rfl <| s_q rfl (y_shlW (a := a) (m := 32 - n) rfl rfl oM) <| q_m rfl rfl <| q_m rfl rfl <| s_q rfl ((y_sub rfl rfl).cast (rot_sub h)) <| s_q rfl (y_shrW (a := a) (m := n) rfl rfl oM) <| tk_qe (W4 (rr a n)) rfl rfl rfl (y_orW (a := a <<< UInt32.ofNat (32 - n)) (b := a >>> UInt32.ofNat n) rfl rfl) (congrArg W4 (rr_def a n)) <| q_a rfl rfl <| s_n <| tk_retc <| tk_ret (()) (trivial) (.inl rfl) (r1 rfl rfl) (List.Sublist.refl _)
set_option maxHeartbeats 1000000 in
theorem turn_spec {sb n : Nat} {R : List UInt32} {W : List UInt8} {w : World} (hR : R.length = 8) (hW : W.length = 64) (hg : Ro (Fs [cel sb (R.map W4 ++ (W.map B ++ [IN n])) 217]) w glob)
    (hh : Pre w [cel sb (R.map W4 ++ (W.map B ++ [IN n])) 217]) :
    Spec Tryz.prog 198 [PT sb] w [cel sb (R.map W4 ++ (W.map B ++ [IN n])) 217] (fun _ : Unit => True) (fun _ => .tuple #[])
      (fun _ => [cel sb ((blockF R W).map W4 ++ (W.map B ++ [IN n])) 217]) := by
  refine spec_of (n := 180) Tryz.func198 rfl rfl hh.1 hh.2 rfl ?_
  have h8 := stepsL_len
  refine s_r <| tk_act rfl <| a_allocL (cs := (List.replicate 64 0).map W4) kR rfl fun b2 => s_n <| tk_seq <| s_r <| q_m rfl rfl <| s_n <| tk_block <| tk_R (H1 := []) rfl (congrArg (fun z_ => cel b2 z_ 422) (show (List.replicate 64 0).map W4 = (schedZ W 0).map W4 from by rw [schedZ_0])) <| tk_loop (X := Nat) (fun i => i ≤ 64) (fun i => [(0, PT sb), (2, PT b2), (15, IN i)]) (fun i => [cel b2 ((schedZ W i).map W4) 422, cel sb (R.map W4 ++ (W.map B ++ ([IN n]))) 217]) (fun i => 64 - i) (0) (by first | exact trivial | omega | (dsimp only; omega)) sB ((List.Sublist.refl _)) ?_
  rintro i hI
  try dsimp only at hI ⊢
  have hz : (schedZ W i).length = 64 := schedZ_len oM
  refine s_r <| s_q rfl (y_lss rfl rfl) <| s_n <| tk_seq <| tk_condP rfl (fun ht16 => ?_) (fun ht16 => ?_)
  · refine tk_skip <| tk_then <| tk_seq <| tk_block <| s_r <| q_m rfl rfl <| q_a rfl rfl <| s_n <| tk_seq <| s_r <| q_m rfl rfl <| s_q rfl (y_lss rfl rfl) <| s_n <| tk_condP rfl (fun ht19 => ?_) (fun ht19 => ?_)
    · refine s_r <| q_m rfl rfl <| s_q rfl (y_nilCheck rfl) <| s_q rfl (y_fldN (o := 0) 8 rfl kR) <| q_m rfl rfl <| s_q rfl (y_mulN (a := 4) (b := i) rfl rfl oM) <| s_q rfl (y_cutAlN1 (o := 8) 64 1 (4 * i) rfl rfl kR ⟨rfl, oM⟩) <| q_a rfl rfl <| s_n <| tk_seq <| tk_drawH [cel sb (R.map W4 ++ (W.map B ++ ([IN n]))) 217] [] kR <| s_x 0 rfl (y_move rfl) <| s_x 1 rfl (y_move rfl) <| s_x 2 rfl (y_ixSN 1 (o := 8 + 4 * i) (i := 0) rfl rfl kR oM) <| s_l 3 rfl (fun _ h => kD 1 rfl h) (y_load rfl rfl (hc (o := 8 + 4 * i) (.head _) (gA (k := 8) (i := 4 * i) lenP oM (gM1 (d := 0) lenP)))) <| s_x 4 rfl (y_conv8W (a := W.getD (4 * i) 0) rfl rfl rfl) <| s_x 5 rfl (y_shlW (a := (W.getD (4 * i) 0).toUInt32) (m := 24) rfl rfl dC) <| s_x 6 rfl (y_move rfl) <| s_x 7 rfl (y_ixSN 1 (o := 8 + 4 * i) (i := 1) rfl rfl kR oM) <| s_l 8 rfl (fun _ h => kD 1 rfl h) (y_load rfl rfl (hc (o := 8 + 4 * i + 1) (.head _) (gA (k := 8) (i := 4 * i + 1) lenP oM (gM1 (d := 0) lenP)))) <| s_x 9 rfl (y_conv8W (a := W.getD (4 * i + 1) 0) rfl rfl rfl) <| s_x 10 rfl (y_shlW (a := (W.getD (4 * i + 1) 0).toUInt32) (m := 16) rfl rfl dC) <| s_x 11 rfl (y_orW (a := ((W.getD (4 * i) 0).toUInt32) <<< UInt32.ofNat 24) (b := ((W.getD (4 * i + 1) 0).toUInt32) <<< UInt32.ofNat 16) rfl rfl) <| s_x 12 rfl (y_move rfl) ?_; refine s_x 13 rfl (y_ixSN 1 (o := 8 + 4 * i) (i := 2) rfl rfl kR oM) <| s_l 14 rfl (fun _ h => kD 1 rfl h) (y_load rfl rfl (hc (o := 8 + 4 * i + 2) (.head _) (gA (k := 8) (i := 4 * i + 2) lenP oM (gM1 (d := 0) lenP)))) <| s_x 15 rfl (y_conv8W (a := W.getD (4 * i + 2) 0) rfl rfl rfl) <| s_x 16 rfl (y_shlW (a := (W.getD (4 * i + 2) 0).toUInt32) (m := 8) rfl rfl dC) <| s_x 17 rfl (y_orW (a := (((W.getD (4 * i) 0).toUInt32) <<< UInt32.ofNat 24) ||| (((W.getD (4 * i + 1) 0).toUInt32) <<< UInt32.ofNat 16)) (b := ((W.getD (4 * i + 2) 0).toUInt32) <<< UInt32.ofNat 8) rfl rfl) <| s_x 18 rfl (y_move rfl) <| s_x 19 rfl (y_ixSN 1 (o := 8 + 4 * i) (i := 3) rfl rfl kR oM) <| s_l 20 rfl (fun _ h => kD 1 rfl h) (y_load rfl rfl (hc (o := 8 + 4 * i + 3) (.head _) (gA (k := 8) (i := 4 * i + 3) lenP oM (gM1 (d := 0) lenP)))) <| s_x 21 rfl (y_conv8W (a := W.getD (4 * i + 3) 0) rfl rfl rfl) <| s_x 22 rfl (y_orW (a := ((((W.getD (4 * i) 0).toUInt32) <<< UInt32.ofNat 24) ||| (((W.getD (4 * i + 1) 0).toUInt32) <<< UInt32.ofNat 16)) ||| (((W.getD (4 * i + 2) 0).toUInt32) <<< UInt32.ofNat 8)) (b := (W.getD (4 * i + 3) 0).toUInt32) rfl rfl) <| s_x 23 rfl (y_ixA01 64 (i := i) rfl rfl kR oM) <| tx_a 24 rfl kR rfl <| a_storeE (H1 := []) (o := i) (v := W4 ((((((W.getD (4 * i) 0).toUInt32) <<< UInt32.ofNat 24) ||| (((W.getD (4 * i + 1) 0).toUInt32) <<< UInt32.ofNat 16)) ||| (((W.getD (4 * i + 2) 0).toUInt32) <<< UInt32.ofNat 8)) ||| ((W.getD (4 * i + 3) 0).toUInt32))) (cs' := ((schedZ W i).set i ((((((W.getD (4 * i) 0).toUInt32) <<< UInt32.ofNat 24) ||| (((W.getD (4 * i + 1) 0).toUInt32) <<< UInt32.ofNat 16)) ||| (((W.getD (4 * i + 2) 0).toUInt32) <<< UInt32.ofNat 8)) ||| ((W.getD (4 * i + 3) 0).toUInt32))).map W4) rfl rfl kR rfl rfl sW (sM) <| tk_S (fun _ h => kD 1 rfl h) <| tx_done kR <| tk_then <| tk_exit <| tk_then_exit <| tk_in_hit <| tk_then <| tk_region <| s_q rfl (y_addN (a := i) (b := 1) rfl rfl oM) <| q_m rfl rfl <| tk_nil ?_; exact tk_R (H1 := []) rfl (congrArg (fun z_ => cel b2 z_ 422) (show ((schedZ W i).set i ((((((W.getD (4 * i) 0).toUInt32) <<< UInt32.ofNat 24) ||| (((W.getD (4 * i + 1) 0).toUInt32) <<< UInt32.ofNat 16)) ||| (((W.getD (4 * i + 2) 0).toUInt32) <<< UInt32.ofNat 8)) ||| ((W.getD (4 * i + 3) 0).toUInt32))).map W4 = (schedZ W (i + 1)).map W4 from congrArg (List.map W4) (schedZ_lo oM oM))) <| tk_again (i + 1) (by first | exact trivial | omega | (dsimp only; omega)) (by first | omega | (dsimp only; omega)) sB (List.Sublist.refl _)
    · refine tk_skip <| tk_then <| tk_seq <| tk_drawH [cel b2 ((schedZ W i).map W4) 422, cel sb (R.map W4 ++ (W.map B ++ ([IN n]))) 217] [] kR <| s_x 0 rfl (y_move rfl) <| s_x 1 rfl (y_subN (a := i) (b := 15) rfl rfl oM) <| s_x 2 rfl (y_ixA01 64 (i := i - 15) rfl rfl kR oM) <| s_l 3 rfl (fun _ h => h) (y_load rfl rfl (hc (o := i - 15) (.head _) (gM (d := 0) lenP))) <| s_x 4 rfl (y_move rfl) <| s_x 5 rfl (y_subN (a := i) (b := 2) rfl rfl oM) <| s_x 6 rfl (y_ixA01 64 (i := i - 2) rfl rfl kR oM) <| s_l 7 rfl (fun _ h => h) (y_load rfl rfl (hc (o := i - 2) (.head _) (gM (d := 0) lenP))) <| s_x 8 rfl (y_assign rfl) <| s_x 9 rfl (y_assign rfl) <| tx_done kR <| tk_then <| tk_drawH [cel b2 ((schedZ W i).map W4) 422, cel sb (R.map W4 ++ (W.map B ++ ([IN n]))) 217] [29] kR <| s_x 0 rfl (y_move rfl) <| s_x 1 rfl (y_move rfl) <| s_x 2 rfl (y_subN (a := i) (b := 16) rfl rfl oM) <| s_x 3 rfl (y_ixA01 64 (i := i - 16) rfl rfl kR oM) <| s_l 4 rfl (fun _ h => h) (y_load rfl rfl (hc (o := i - 16) (.head _) (gM (d := 0) lenP))) <| s_x 5 rfl (y_move rfl) <| s_x 6 rfl (y_subN (a := i) (b := 7) rfl rfl oM) ?_; refine s_x 7 rfl (y_ixA01 64 (i := i - 7) rfl rfl kR oM) <| s_l 8 rfl (fun _ h => h) (y_load rfl rfl (hc (o := i - 7) (.head _) (gM (d := 0) lenP))) <| s_x 9 rfl (y_addW (a := (schedZ W i).getD (i - 16) 0) (b := (schedZ W i).getD (i - 7) 0) rfl rfl) <| s_x 10 rfl (y_move rfl) <| s_x 12 rfl (y_move rfl) <| s_x 15 rfl (y_move rfl) <| s_x 16 rfl (y_shrW (a := (schedZ W i).getD (i - 15) 0) (m := 3) rfl rfl dC) <| s_x 19 rfl (y_move rfl) <| s_x 21 rfl (y_move rfl) <| s_x 24 rfl (y_move rfl) <| s_x 25 rfl (y_shrW (a := (schedZ W i).getD (i - 2) 0) (m := 10) rfl rfl dC) <| tx_a 11 rfl kR rfl <| a_callv [] _ rfl kR rfl (fun w' hw' => rot_spec ((schedZ W i).getD (i - 15) 0) 7 dC) rfl fun _ _ => tk_S (fun _ h => h) <| tx_a 13 rfl kR rfl <| a_callv [] _ rfl kR rfl (fun w' hw' => rot_spec ((schedZ W i).getD (i - 15) 0) 18 dC) rfl fun _ _ => tk_S (fun _ h => h) <| s_x 14 rfl (y_xorW (a := rr ((schedZ W i).getD (i - 15) 0) 7) (b := rr ((schedZ W i).getD (i - 15) 0) 18) rfl rfl) <| s_x 17 rfl (y_xorW (a := (rr ((schedZ W i).getD (i - 15) 0) 7) ^^^ (rr ((schedZ W i).getD (i - 15) 0) 18)) (b := ((schedZ W i).getD (i - 15) 0) >>> UInt32.ofNat 3) rfl rfl) <| s_x 18 rfl (y_addW (a := ((schedZ W i).getD (i - 16) 0) + ((schedZ W i).getD (i - 7) 0)) (b := ((rr ((schedZ W i).getD (i - 15) 0) 7) ^^^ (rr ((schedZ W i).getD (i - 15) 0) 18)) ^^^ (((schedZ W i).getD (i - 15) 0) >>> UInt32.ofNat 3)) rfl rfl) <| tx_a 20 rfl kR rfl <| a_callv [] _ rfl kR rfl (fun w' hw' => rot_spec ((schedZ W i).getD (i - 2) 0) 17 dC) rfl fun _ _ => tk_S (fun _ h => h) <| tx_a 22 rfl kR rfl ?_; exact a_callv [] _ rfl kR rfl (fun w' hw' => rot_spec ((schedZ W i).getD (i - 2) 0) 19 dC) rfl fun _ _ => tk_S (fun _ h => h) <| s_x 23 rfl (y_xorW (a := rr ((schedZ W i).getD (i - 2) 0) 17) (b := rr ((schedZ W i).getD (i - 2) 0) 19) rfl rfl) <| s_x 26 rfl (y_xorW (a := (rr ((schedZ W i).getD (i - 2) 0) 17) ^^^ (rr ((schedZ W i).getD (i - 2) 0) 19)) (b := ((schedZ W i).getD (i - 2) 0) >>> UInt32.ofNat 10) rfl rfl) <| s_x 27 rfl (y_addW (a := (((schedZ W i).getD (i - 16) 0) + ((schedZ W i).getD (i - 7) 0)) + (((rr ((schedZ W i).getD (i - 15) 0) 7) ^^^ (rr ((schedZ W i).getD (i - 15) 0) 18)) ^^^ (((schedZ W i).getD (i - 15) 0) >>> UInt32.ofNat 3))) (b := ((rr ((schedZ W i).getD (i - 2) 0) 17) ^^^ (rr ((schedZ W i).getD (i - 2) 0) 19)) ^^^ (((schedZ W i).getD (i - 2) 0) >>> UInt32.ofNat 10)) rfl rfl) <| s_x 28 rfl (y_ixA01 64 (i := i) rfl rfl kR oM) <| tx_x 29 rfl kR rfl rfl <| a_storeE (H1 := []) (o := i) (v := W4 (((((schedZ W i).getD (i - 16) 0) + ((schedZ W i).getD (i - 7) 0)) + (((rr ((schedZ W i).getD (i - 15) 0) 7) ^^^ (rr ((schedZ W i).getD (i - 15) 0) 18)) ^^^ (((schedZ W i).getD (i - 15) 0) >>> UInt32.ofNat 3))) + (((rr ((schedZ W i).getD (i - 2) 0) 17) ^^^ (rr ((schedZ W i).getD (i - 2) 0) 19)) ^^^ (((schedZ W i).getD (i - 2) 0) >>> UInt32.ofNat 10)))) (cs' := ((schedZ W i).set i (((((schedZ W i).getD (i - 16) 0) + ((schedZ W i).getD (i - 7) 0)) + (((rr ((schedZ W i).getD (i - 15) 0) 7) ^^^ (rr ((schedZ W i).getD (i - 15) 0) 18)) ^^^ (((schedZ W i).getD (i - 15) 0) >>> UInt32.ofNat 3))) + (((rr ((schedZ W i).getD (i - 2) 0) 17) ^^^ (rr ((schedZ W i).getD (i - 2) 0) 19)) ^^^ (((schedZ W i).getD (i - 2) 0) >>> UInt32.ofNat 10)))).map W4) rfl rfl kR rfl rfl sW (sM) <| tx_done kR <| tk_in_normal <| tk_then <| tk_region <| s_q rfl (y_addN (a := i) (b := 1) rfl rfl oM) <| q_m rfl rfl <| tk_nil <| tk_R (H1 := []) rfl (congrArg (fun z_ => cel b2 z_ 422) (show ((schedZ W i).set i (((((schedZ W i).getD (i - 16) 0) + ((schedZ W i).getD (i - 7) 0)) + (((rr ((schedZ W i).getD (i - 15) 0) 7) ^^^ (rr ((schedZ W i).getD (i - 15) 0) 18)) ^^^ (((schedZ W i).getD (i - 15) 0) >>> UInt32.ofNat 3))) + (((rr ((schedZ W i).getD (i - 2) 0) 17) ^^^ (rr ((schedZ W i).getD (i - 2) 0) 19)) ^^^ (((schedZ W i).getD (i - 2) 0) >>> UInt32.ofNat 10)))).map W4 = (schedZ W (i + 1)).map W4 from congrArg (List.map W4) (schedZ_hi oM oM))) <| tk_again (i + 1) (by first | exact trivial | omega | (dsimp only; omega)) (by first | omega | (dsimp only; omega)) sB (List.Sublist.refl _)
  · refine tk_R (H1 := []) rfl (congrArg (fun z_ => cel b2 z_ 422) (show (schedZ W i).map W4 = (sched W 64).map W4 from by rw [show i = 64 by omega, schedZ_64])) <| tk_exit <| tk_then_exit <| tk_then_exit <| tk_in_hit <| tk_then <| s_r <| q_m rfl rfl <| s_q rfl (y_nilCheck rfl) <| s_q rfl (y_fld0 (o := 0) rfl kR) <| s_q rfl (y_loadA (vs := R.map W4) 8 rfl kR lenP (hseg (pre := ([] : List Value)) (post := W.map B ++ ([IN n])) (mm 1 rfl) lenP sI)) <| tk_act rfl <| a_allocL (cs := (List.replicate 8 0).map W4) kR rfl fun b7 => tk_act rfl <| a_storeW (H1 := []) (vs := R.map W4) 8 rfl rfl kR rfl ⟨lenP, lenP⟩ oneW <| s_n <| tk_seq <| s_r <| s_q rfl (y_loadA 64 rfl kR lenP (hcw (mm 1 rfl))) <| q_m rfl rfl <| s_n <| tk_block <| tk_R (H1 := []) rfl (congrArg (fun z_ => cel b7 z_ 214) (show R.map W4 = (rounds R stepsL (sched W 64) 0).map W4 from by rw [rounds_0])) <| tk_loop (X := Nat) (fun i => i ≤ 64) (fun i => [(0, PT sb), (7, PT b7), (92, .agg ((sched W 64).map W4).toArray), (93, IN i)]) (fun i => [cel b7 ((rounds R stepsL (sched W 64) i).map W4) 214, cel b2 ((sched W 64).map W4) 422, cel sb (R.map W4 ++ (W.map B ++ ([IN n]))) 217]) (fun i => 64 - i) (0) (by first | exact trivial | omega | (dsimp only; omega)) sB ((List.Sublist.refl _)) ?_
    rintro i hI
    try dsimp only at hI ⊢
    have hv : (rounds R stepsL (sched W 64) i).length = 8 := rounds_len hR i
    have hz : (sched W 64).length = 64 := sched_len _ _
    refine s_r <| s_q rfl (y_lss rfl rfl) <| s_n <| tk_seq <| tk_condP rfl (fun ht94 => ?_) (fun ht94 => ?_)
    · refine tk_skip <| tk_then <| tk_seq <| tk_block <| s_r <| q_m rfl rfl <| s_q rfl (y_ixVM (d0 := 0) (i := i) rfl rfl rfl rfl (fun _ => kR) oM lenP) <| q_a rfl rfl <| q_a rfl rfl <| s_n <| tk_seq <| tk_drawH [cel b7 ((rounds R stepsL (sched W 64) i).map W4) 214, cel b2 ((sched W 64).map W4) 422, cel sb (R.map W4 ++ (W.map B ++ ([IN n]))) 217] [] kR <| s_x 0 rfl (y_ixAN 8 1 (o := 0) (i := 0) rfl rfl kR oM) <| s_l 1 rfl (fun _ h => h) (y_load rfl rfl (hc (o := 0) (.head _) (gM (d := 0) lenP))) <| s_x 2 rfl (y_ixAN 8 1 (o := 0) (i := 4) rfl rfl kR oM) <| s_l 3 rfl (fun _ h => h) (y_load rfl rfl (hc (o := 4) (.head _) (gM (d := 0) lenP))) <| s_x 4 rfl (y_assign rfl) <| s_x 5 rfl (y_assign rfl) <| tx_done kR <| tk_then <| tk_seq <| tk_drawH [cel b7 ((rounds R stepsL (sched W 64) i).map W4) 214, cel b2 ((sched W 64).map W4) 422, cel sb (R.map W4 ++ (W.map B ++ ([IN n]))) 217] [] kR <| s_x 0 rfl (y_ixAN 8 1 (o := 0) (i := 7) rfl rfl kR oM) <| s_l 1 rfl (fun _ h => h) (y_load rfl rfl (hc (o := 7) (.head _) (gM (d := 0) lenP))) ?_; refine s_x 2 rfl (y_move rfl) <| s_x 4 rfl (y_move rfl) <| s_x 7 rfl (y_move rfl) <| s_x 11 rfl (y_ixAN 8 1 (o := 0) (i := 6) rfl rfl kR oM) <| s_l 12 rfl (fun _ h => h) (y_load rfl rfl (hc (o := 6) (.head _) (gM (d := 0) lenP))) <| s_x 13 rfl (y_move rfl) <| s_x 14 rfl (y_ixAN 8 1 (o := 0) (i := 5) rfl rfl kR oM) <| s_l 15 rfl (fun _ h => h) (y_load rfl rfl (hc (o := 5) (.head _) (gM (d := 0) lenP))) <| s_x 16 rfl (y_ixAN 8 1 (o := 0) (i := 6) rfl rfl kR oM) <| s_l 17 rfl (fun _ h => h) (y_load rfl rfl (hc (o := 6) (.head _) (gM (d := 0) lenP))) <| s_x 18 rfl (y_xorW (a := (rounds R stepsL (sched W 64) i).getD 5 0) (b := (rounds R stepsL (sched W 64) i).getD 6 0) rfl rfl) <| s_x 19 rfl (y_andW (a := (rounds R stepsL (sched W 64) i).getD 4 0) (b := ((rounds R stepsL (sched W 64) i).getD 5 0) ^^^ ((rounds R stepsL (sched W 64) i).getD 6 0)) rfl rfl) <| s_x 20 rfl (y_xorW (a := (rounds R stepsL (sched W 64) i).getD 6 0) (b := ((rounds R stepsL (sched W 64) i).getD 4 0) &&& (((rounds R stepsL (sched W 64) i).getD 5 0) ^^^ ((rounds R stepsL (sched W 64) i).getD 6 0))) rfl rfl) <| s_x 22 rfl (y_move rfl) <| s_x 23 rfl (y_ixA01 64 (i := i) rfl rfl kR oM) <| s_l 24 rfl (fun _ h => h) (y_load rfl rfl (fun w hw => (Ro.st (p := glob) hg hw).2 _ _ (gM (d := 0) (by rw [stepsL_len]; omega)))) <| s_x 26 rfl (y_move rfl) <| tx_a 3 rfl kR rfl <| a_callv [] _ rfl kR rfl (fun w' hw' => rot_spec ((rounds R stepsL (sched W 64) i).getD 4 0) 6 dC) rfl fun _ _ => tk_S (fun _ h => h) <| tx_a 5 rfl kR rfl <| a_callv [] _ rfl kR rfl (fun w' hw' => rot_spec ((rounds R stepsL (sched W 64) i).getD 4 0) 11 dC) rfl fun _ _ => tk_S (fun _ h => h) <| s_x 6 rfl (y_xorW (a := rr ((rounds R stepsL (sched W 64) i).getD 4 0) 6) (b := rr ((rounds R stepsL (sched W 64) i).getD 4 0) 11) rfl rfl) ?_; refine tx_a 8 rfl kR rfl <| a_callv [] _ rfl kR rfl (fun w' hw' => rot_spec ((rounds R stepsL (sched W 64) i).getD 4 0) 25 dC) rfl fun _ _ => tk_S (fun _ h => h) <| s_x 9 rfl (y_xorW (a := (rr ((rounds R stepsL (sched W 64) i).getD 4 0) 6) ^^^ (rr ((rounds R stepsL (sched W 64) i).getD 4 0) 11)) (b := rr ((rounds R stepsL (sched W 64) i).getD 4 0) 25) rfl rfl) <| s_x 10 rfl (y_addW (a := (rounds R stepsL (sched W 64) i).getD 7 0) (b := ((rr ((rounds R stepsL (sched W 64) i).getD 4 0) 6) ^^^ (rr ((rounds R stepsL (sched W 64) i).getD 4 0) 11)) ^^^ (rr ((rounds R stepsL (sched W 64) i).getD 4 0) 25)) rfl rfl) <| s_x 21 rfl (y_addW (a := ((rounds R stepsL (sched W 64) i).getD 7 0) + (((rr ((rounds R stepsL (sched W 64) i).getD 4 0) 6) ^^^ (rr ((rounds R stepsL (sched W 64) i).getD 4 0) 11)) ^^^ (rr ((rounds R stepsL (sched W 64) i).getD 4 0) 25))) (b := ((rounds R stepsL (sched W 64) i).getD 6 0) ^^^ (((rounds R stepsL (sched W 64) i).getD 4 0) &&& (((rounds R stepsL (sched W 64) i).getD 5 0) ^^^ ((rounds R stepsL (sched W 64) i).getD 6 0)))) rfl rfl) <| s_x 25 rfl (y_addW (a := (((rounds R stepsL (sched W 64) i).getD 7 0) + (((rr ((rounds R stepsL (sched W 64) i).getD 4 0) 6) ^^^ (rr ((rounds R stepsL (sched W 64) i).getD 4 0) 11)) ^^^ (rr ((rounds R stepsL (sched W 64) i).getD 4 0) 25))) + (((rounds R stepsL (sched W 64) i).getD 6 0) ^^^ (((rounds R stepsL (sched W 64) i).getD 4 0) &&& (((rounds R stepsL (sched W 64) i).getD 5 0) ^^^ ((rounds R stepsL (sched W 64) i).getD 6 0))))) (b := stepsL.getD i 0) rfl rfl) <| s_x 27 rfl (y_addW (a := ((((rounds R stepsL (sched W 64) i).getD 7 0) + (((rr ((rounds R stepsL (sched W 64) i).getD 4 0) 6) ^^^ (rr ((rounds R stepsL (sched W 64) i).getD 4 0) 11)) ^^^ (rr ((rounds R stepsL (sched W 64) i).getD 4 0) 25))) + (((rounds R stepsL (sched W 64) i).getD 6 0) ^^^ (((rounds R stepsL (sched W 64) i).getD 4 0) &&& (((rounds R stepsL (sched W 64) i).getD 5 0) ^^^ ((rounds R stepsL (sched W 64) i).getD 6 0))))) + (stepsL.getD i 0)) (b := (sched W 64).getD i 0) rfl rfl) <| s_x 28 rfl (y_assign rfl) <| tx_done kR <| tk_then <| tk_seq <| tk_drawH [cel b7 ((rounds R stepsL (sched W 64) i).map W4) 214, cel b2 ((sched W 64).map W4) 422, cel sb (R.map W4 ++ (W.map B ++ ([IN n]))) 217] [] kR <| s_x 0 rfl (y_move rfl) <| s_x 2 rfl (y_move rfl) <| s_x 5 rfl (y_move rfl) <| s_x 8 rfl (y_move rfl) <| s_x 9 rfl (y_ixAN 8 1 (o := 0) (i := 1) rfl rfl kR oM) <| s_l 10 rfl (fun _ h => h) (y_load rfl rfl (hc (o := 1) (.head _) (gM (d := 0) lenP))) <| s_x 11 rfl (y_andW (a := (rounds R stepsL (sched W 64) i).getD 0 0) (b := (rounds R stepsL (sched W 64) i).getD 1 0) rfl rfl) ?_; refine s_x 12 rfl (y_ixAN 8 1 (o := 0) (i := 2) rfl rfl kR oM) <| s_l 13 rfl (fun _ h => h) (y_load rfl rfl (hc (o := 2) (.head _) (gM (d := 0) lenP))) <| s_x 14 rfl (y_move rfl) <| s_x 15 rfl (y_ixAN 8 1 (o := 0) (i := 1) rfl rfl kR oM) <| s_l 16 rfl (fun _ h => h) (y_load rfl rfl (hc (o := 1) (.head _) (gM (d := 0) lenP))) <| s_x 17 rfl (y_orW (a := (rounds R stepsL (sched W 64) i).getD 0 0) (b := (rounds R stepsL (sched W 64) i).getD 1 0) rfl rfl) <| s_x 18 rfl (y_andW (a := (rounds R stepsL (sched W 64) i).getD 2 0) (b := ((rounds R stepsL (sched W 64) i).getD 0 0) ||| ((rounds R stepsL (sched W 64) i).getD 1 0)) rfl rfl) <| s_x 19 rfl (y_orW (a := ((rounds R stepsL (sched W 64) i).getD 0 0) &&& ((rounds R stepsL (sched W 64) i).getD 1 0)) (b := ((rounds R stepsL (sched W 64) i).getD 2 0) &&& (((rounds R stepsL (sched W 64) i).getD 0 0) ||| ((rounds R stepsL (sched W 64) i).getD 1 0))) rfl rfl) <| tx_a 1 rfl kR rfl <| a_callv [] _ rfl kR rfl (fun w' hw' => rot_spec ((rounds R stepsL (sched W 64) i).getD 0 0) 2 dC) rfl fun _ _ => tk_S (fun _ h => h) <| tx_a 3 rfl kR rfl <| a_callv [] _ rfl kR rfl (fun w' hw' => rot_spec ((rounds R stepsL (sched W 64) i).getD 0 0) 13 dC) rfl fun _ _ => tk_S (fun _ h => h) <| s_x 4 rfl (y_xorW (a := rr ((rounds R stepsL (sched W 64) i).getD 0 0) 2) (b := rr ((rounds R stepsL (sched W 64) i).getD 0 0) 13) rfl rfl) <| tx_a 6 rfl kR rfl <| a_callv [] _ rfl kR rfl (fun w' hw' => rot_spec ((rounds R stepsL (sched W 64) i).getD 0 0) 22 dC) rfl fun _ _ => tk_S (fun _ h => h) <| s_x 7 rfl (y_xorW (a := (rr ((rounds R stepsL (sched W 64) i).getD 0 0) 2) ^^^ (rr ((rounds R stepsL (sched W 64) i).getD 0 0) 13)) (b := rr ((rounds R stepsL (sched W 64) i).getD 0 0) 22) rfl rfl) <| s_x 20 rfl (y_addW (a := ((rr ((rounds R stepsL (sched W 64) i).getD 0 0) 2) ^^^ (rr ((rounds R stepsL (sched W 64) i).getD 0 0) 13)) ^^^ (rr ((rounds R stepsL (sched W 64) i).getD 0 0) 22)) (b := (((rounds R stepsL (sched W 64) i).getD 0 0) &&& ((rounds R stepsL (sched W 64) i).getD 1 0)) ||| (((rounds R stepsL (sched W 64) i).getD 2 0) &&& (((rounds R stepsL (sched W 64) i).getD 0 0) ||| ((rounds R stepsL (sched W 64) i).getD 1 0)))) rfl rfl) <| s_x 21 rfl (y_assign rfl) <| tx_done kR <| tk_then <| tk_seq ?_; refine tk_drawH [cel b2 ((sched W 64).map W4) 422, cel sb (R.map W4 ++ (W.map B ++ ([IN n]))) 217] [] kR <| s_x 0 rfl (y_cutAlN1 (o := 0) 8 1 1 rfl rfl kR ⟨rfl, oM⟩) <| s_x 1 rfl (y_cutAhN (o := 0) 8 1 7 rfl rfl kR ⟨rfl, oM⟩) <| tx_a 2 rfl kR rfl <| a_copyR (H1 := []) (pre := ((rounds R stepsL (sched W 64) i).take 1).map W4) (mid := ((rounds R stepsL (sched W 64) i).drop 1).map W4) (post := []) (vs := ((rounds R stepsL (sched W 64) i).take 7).map W4) (us := ((rounds R stepsL (sched W 64) i).take 7).map W4) (cs' := ((rounds R stepsL (sched W 64) i).take 1 ++ (rounds R stepsL (sched W 64) i).take 7).map W4) (m := 7) rfl rfl rfl kR rfl rfl (fun w hw => cel_rdE (o := 0) (vs := ((rounds R stepsL (sched W 64) i).take 7).map W4) (hw.mem (.head _)) (by rw [List.drop_zero, List.length_map, List.length_take, hv, List.map_take]; rfl) (by simp [hv]) oM) (by simp [hv]) (by rw [← List.map_take, List.take_take]; rfl) oneW ⟨by simp [hv], by simp [hv]⟩ (by rw [List.append_nil, ← List.map_append, List.take_append_drop]) (by rw [List.append_nil, ← List.map_append]) <| tk_S (fun _ h => kD 1 rfl h) <| tx_done kR <| tk_then <| s_r <| q_m rfl rfl <| q_m rfl rfl <| s_q rfl (y_addW (a := (((((rounds R stepsL (sched W 64) i).getD 7 0) + (((rr ((rounds R stepsL (sched W 64) i).getD 4 0) 6) ^^^ (rr ((rounds R stepsL (sched W 64) i).getD 4 0) 11)) ^^^ (rr ((rounds R stepsL (sched W 64) i).getD 4 0) 25))) + (((rounds R stepsL (sched W 64) i).getD 6 0) ^^^ (((rounds R stepsL (sched W 64) i).getD 4 0) &&& (((rounds R stepsL (sched W 64) i).getD 5 0) ^^^ ((rounds R stepsL (sched W 64) i).getD 6 0))))) + (stepsL.getD i 0)) + ((sched W 64).getD i 0)) (b := (((rr ((rounds R stepsL (sched W 64) i).getD 0 0) 2) ^^^ (rr ((rounds R stepsL (sched W 64) i).getD 0 0) 13)) ^^^ (rr ((rounds R stepsL (sched W 64) i).getD 0 0) 22)) + ((((rounds R stepsL (sched W 64) i).getD 0 0) &&& ((rounds R stepsL (sched W 64) i).getD 1 0)) ||| (((rounds R stepsL (sched W 64) i).getD 2 0) &&& (((rounds R stepsL (sched W 64) i).getD 0 0) ||| ((rounds R stepsL (sched W 64) i).getD 1 0))))) rfl rfl) <| s_q rfl (y_ixAN 8 1 (o := 0) (i := 0) rfl rfl kR oM) <| tk_act rfl <| a_storeE (H1 := []) (o := 0) (v := W4 (((((((rounds R stepsL (sched W 64) i).getD 7 0) + (((rr ((rounds R stepsL (sched W 64) i).getD 4 0) 6) ^^^ (rr ((rounds R stepsL (sched W 64) i).getD 4 0) 11)) ^^^ (rr ((rounds R stepsL (sched W 64) i).getD 4 0) 25))) + (((rounds R stepsL (sched W 64) i).getD 6 0) ^^^ (((rounds R stepsL (sched W 64) i).getD 4 0) &&& (((rounds R stepsL (sched W 64) i).getD 5 0) ^^^ ((rounds R stepsL (sched W 64) i).getD 6 0))))) + (stepsL.getD i 0)) + ((sched W 64).getD i 0)) + ((((rr ((rounds R stepsL (sched W 64) i).getD 0 0) 2) ^^^ (rr ((rounds R stepsL (sched W 64) i).getD 0 0) 13)) ^^^ (rr ((rounds R stepsL (sched W 64) i).getD 0 0) 22)) + ((((rounds R stepsL (sched W 64) i).getD 0 0) &&& ((rounds R stepsL (sched W 64) i).getD 1 0)) ||| (((rounds R stepsL (sched W 64) i).getD 2 0) &&& (((rounds R stepsL (sched W 64) i).getD 0 0) ||| ((rounds R stepsL (sched W 64) i).getD 1 0))))))) (cs' := (((rounds R stepsL (sched W 64) i).take 1 ++ (rounds R stepsL (sched W 64) i).take 7).set 0 (((((((rounds R stepsL (sched W 64) i).getD 7 0) + (((rr ((rounds R stepsL (sched W 64) i).getD 4 0) 6) ^^^ (rr ((rounds R stepsL (sched W 64) i).getD 4 0) 11)) ^^^ (rr ((rounds R stepsL (sched W 64) i).getD 4 0) 25))) + (((rounds R stepsL (sched W 64) i).getD 6 0) ^^^ (((rounds R stepsL (sched W 64) i).getD 4 0) &&& (((rounds R stepsL (sched W 64) i).getD 5 0) ^^^ ((rounds R stepsL (sched W 64) i).getD 6 0))))) + (stepsL.getD i 0)) + ((sched W 64).getD i 0)) + ((((rr ((rounds R stepsL (sched W 64) i).getD 0 0) 2) ^^^ (rr ((rounds R stepsL (sched W 64) i).getD 0 0) 13)) ^^^ (rr ((rounds R stepsL (sched W 64) i).getD 0 0) 22)) + ((((rounds R stepsL (sched W 64) i).getD 0 0) &&& ((rounds R stepsL (sched W 64) i).getD 1 0)) ||| (((rounds R stepsL (sched W 64) i).getD 2 0) &&& (((rounds R stepsL (sched W 64) i).getD 0 0) ||| ((rounds R stepsL (sched W 64) i).getD 1 0))))))).map W4) rfl rfl kR rfl rfl sW (sM) ?_; refine s_n <| tk_region <| s_q rfl (y_ixAN 8 1 (o := 0) (i := 4) rfl rfl kR oM) <| s_q rfl (y_load rfl rfl (hc (o := 4) (.head _) (gM (d := 0) lenP))) <| q_m rfl rfl <| s_q rfl (y_addW (a := (((rounds R stepsL (sched W 64) i).take 1 ++ (rounds R stepsL (sched W 64) i).take 7).set 0 (((((((rounds R stepsL (sched W 64) i).getD 7 0) + (((rr ((rounds R stepsL (sched W 64) i).getD 4 0) 6) ^^^ (rr ((rounds R stepsL (sched W 64) i).getD 4 0) 11)) ^^^ (rr ((rounds R stepsL (sched W 64) i).getD 4 0) 25))) + (((rounds R stepsL (sched W 64) i).getD 6 0) ^^^ (((rounds R stepsL (sched W 64) i).getD 4 0) &&& (((rounds R stepsL (sched W 64) i).getD 5 0) ^^^ ((rounds R stepsL (sched W 64) i).getD 6 0))))) + (stepsL.getD i 0)) + ((sched W 64).getD i 0)) + ((((rr ((rounds R stepsL (sched W 64) i).getD 0 0) 2) ^^^ (rr ((rounds R stepsL (sched W 64) i).getD 0 0) 13)) ^^^ (rr ((rounds R stepsL (sched W 64) i).getD 0 0) 22)) + ((((rounds R stepsL (sched W 64) i).getD 0 0) &&& ((rounds R stepsL (sched W 64) i).getD 1 0)) ||| (((rounds R stepsL (sched W 64) i).getD 2 0) &&& (((rounds R stepsL (sched W 64) i).getD 0 0) ||| ((rounds R stepsL (sched W 64) i).getD 1 0))))))).getD 4 0) (b := (((((rounds R stepsL (sched W 64) i).getD 7 0) + (((rr ((rounds R stepsL (sched W 64) i).getD 4 0) 6) ^^^ (rr ((rounds R stepsL (sched W 64) i).getD 4 0) 11)) ^^^ (rr ((rounds R stepsL (sched W 64) i).getD 4 0) 25))) + (((rounds R stepsL (sched W 64) i).getD 6 0) ^^^ (((rounds R stepsL (sched W 64) i).getD 4 0) &&& (((rounds R stepsL (sched W 64) i).getD 5 0) ^^^ ((rounds R stepsL (sched W 64) i).getD 6 0))))) + (stepsL.getD i 0)) + ((sched W 64).getD i 0)) rfl rfl) <| s_q rfl (y_ixAN 8 1 (o := 0) (i := 4) rfl rfl kR oM) <| tk_act rfl <| a_storeE (H1 := []) (o := 4) (v := W4 (((((rounds R stepsL (sched W 64) i).take 1 ++ (rounds R stepsL (sched W 64) i).take 7).set 0 (((((((rounds R stepsL (sched W 64) i).getD 7 0) + (((rr ((rounds R stepsL (sched W 64) i).getD 4 0) 6) ^^^ (rr ((rounds R stepsL (sched W 64) i).getD 4 0) 11)) ^^^ (rr ((rounds R stepsL (sched W 64) i).getD 4 0) 25))) + (((rounds R stepsL (sched W 64) i).getD 6 0) ^^^ (((rounds R stepsL (sched W 64) i).getD 4 0) &&& (((rounds R stepsL (sched W 64) i).getD 5 0) ^^^ ((rounds R stepsL (sched W 64) i).getD 6 0))))) + (stepsL.getD i 0)) + ((sched W 64).getD i 0)) + ((((rr ((rounds R stepsL (sched W 64) i).getD 0 0) 2) ^^^ (rr ((rounds R stepsL (sched W 64) i).getD 0 0) 13)) ^^^ (rr ((rounds R stepsL (sched W 64) i).getD 0 0) 22)) + ((((rounds R stepsL (sched W 64) i).getD 0 0) &&& ((rounds R stepsL (sched W 64) i).getD 1 0)) ||| (((rounds R stepsL (sched W 64) i).getD 2 0) &&& (((rounds R stepsL (sched W 64) i).getD 0 0) ||| ((rounds R stepsL (sched W 64) i).getD 1 0))))))).getD 4 0) + ((((((rounds R stepsL (sched W 64) i).getD 7 0) + (((rr ((rounds R stepsL (sched W 64) i).getD 4 0) 6) ^^^ (rr ((rounds R stepsL (sched W 64) i).getD 4 0) 11)) ^^^ (rr ((rounds R stepsL (sched W 64) i).getD 4 0) 25))) + (((rounds R stepsL (sched W 64) i).getD 6 0) ^^^ (((rounds R stepsL (sched W 64) i).getD 4 0) &&& (((rounds R stepsL (sched W 64) i).getD 5 0) ^^^ ((rounds R stepsL (sched W 64) i).getD 6 0))))) + (stepsL.getD i 0)) + ((sched W 64).getD i 0)))) (cs' := ((((rounds R stepsL (sched W 64) i).take 1 ++ (rounds R stepsL (sched W 64) i).take 7).set 0 (((((((rounds R stepsL (sched W 64) i).getD 7 0) + (((rr ((rounds R stepsL (sched W 64) i).getD 4 0) 6) ^^^ (rr ((rounds R stepsL (sched W 64) i).getD 4 0) 11)) ^^^ (rr ((rounds R stepsL (sched W 64) i).getD 4 0) 25))) + (((rounds R stepsL (sched W 64) i).getD 6 0) ^^^ (((rounds R stepsL (sched W 64) i).getD 4 0) &&& (((rounds R stepsL (sched W 64) i).getD 5 0) ^^^ ((rounds R stepsL (sched W 64) i).getD 6 0))))) + (stepsL.getD i 0)) + ((sched W 64).getD i 0)) + ((((rr ((rounds R stepsL (sched W 64) i).getD 0 0) 2) ^^^ (rr ((rounds R stepsL (sched W 64) i).getD 0 0) 13)) ^^^ (rr ((rounds R stepsL (sched W 64) i).getD 0 0) 22)) + ((((rounds R stepsL (sched W 64) i).getD 0 0) &&& ((rounds R stepsL (sched W 64) i).getD 1 0)) ||| (((rounds R stepsL (sched W 64) i).getD 2 0) &&& (((rounds R stepsL (sched W 64) i).getD 0 0) ||| ((rounds R stepsL (sched W 64) i).getD 1 0))))))).set 4 (((((rounds R stepsL (sched W 64) i).take 1 ++ (rounds R stepsL (sched W 64) i).take 7).set 0 (((((((rounds R stepsL (sched W 64) i).getD 7 0) + (((rr ((rounds R stepsL (sched W 64) i).getD 4 0) 6) ^^^ (rr ((rounds R stepsL (sched W 64) i).getD 4 0) 11)) ^^^ (rr ((rounds R stepsL (sched W 64) i).getD 4 0) 25))) + (((rounds R stepsL (sched W 64) i).getD 6 0) ^^^ (((rounds R stepsL (sched W 64) i).getD 4 0) &&& (((rounds R stepsL (sched W 64) i).getD 5 0) ^^^ ((rounds R stepsL (sched W 64) i).getD 6 0))))) + (stepsL.getD i 0)) + ((sched W 64).getD i 0)) + ((((rr ((rounds R stepsL (sched W 64) i).getD 0 0) 2) ^^^ (rr ((rounds R stepsL (sched W 64) i).getD 0 0) 13)) ^^^ (rr ((rounds R stepsL (sched W 64) i).getD 0 0) 22)) + ((((rounds R stepsL (sched W 64) i).getD 0 0) &&& ((rounds R stepsL (sched W 64) i).getD 1 0)) ||| (((rounds R stepsL (sched W 64) i).getD 2 0) &&& (((rounds R stepsL (sched W 64) i).getD 0 0) ||| ((rounds R stepsL (sched W 64) i).getD 1 0))))))).getD 4 0) + ((((((rounds R stepsL (sched W 64) i).getD 7 0) + (((rr ((rounds R stepsL (sched W 64) i).getD 4 0) 6) ^^^ (rr ((rounds R stepsL (sched W 64) i).getD 4 0) 11)) ^^^ (rr ((rounds R stepsL (sched W 64) i).getD 4 0) 25))) + (((rounds R stepsL (sched W 64) i).getD 6 0) ^^^ (((rounds R stepsL (sched W 64) i).getD 4 0) &&& (((rounds R stepsL (sched W 64) i).getD 5 0) ^^^ ((rounds R stepsL (sched W 64) i).getD 6 0))))) + (stepsL.getD i 0)) + ((sched W 64).getD i 0)))).map W4) rfl rfl kR rfl rfl sW (sM) ?_; refine tk_nil <| tk_in_normal <| tk_then <| tk_region <| s_q rfl (y_addN (a := i) (b := 1) rfl rfl oM) <| q_m rfl rfl <| tk_nil <| tk_R (H1 := []) rfl (congrArg (fun z_ => cel b7 z_ 214) (show ((((rounds R stepsL (sched W 64) i).take 1 ++ (rounds R stepsL (sched W 64) i).take 7).set 0 (((((((rounds R stepsL (sched W 64) i).getD 7 0) + (((rr ((rounds R stepsL (sched W 64) i).getD 4 0) 6) ^^^ (rr ((rounds R stepsL (sched W 64) i).getD 4 0) 11)) ^^^ (rr ((rounds R stepsL (sched W 64) i).getD 4 0) 25))) + (((rounds R stepsL (sched W 64) i).getD 6 0) ^^^ (((rounds R stepsL (sched W 64) i).getD 4 0) &&& (((rounds R stepsL (sched W 64) i).getD 5 0) ^^^ ((rounds R stepsL (sched W 64) i).getD 6 0))))) + (stepsL.getD i 0)) + ((sched W 64).getD i 0)) + ((((rr ((rounds R stepsL (sched W 64) i).getD 0 0) 2) ^^^ (rr ((rounds R stepsL (sched W 64) i).getD 0 0) 13)) ^^^ (rr ((rounds R stepsL (sched W 64) i).getD 0 0) 22)) + ((((rounds R stepsL (sched W 64) i).getD 0 0) &&& ((rounds R stepsL (sched W 64) i).getD 1 0)) ||| (((rounds R stepsL (sched W 64) i).getD 2 0) &&& (((rounds R stepsL (sched W 64) i).getD 0 0) ||| ((rounds R stepsL (sched W 64) i).getD 1 0))))))).set 4 (((((rounds R stepsL (sched W 64) i).take 1 ++ (rounds R stepsL (sched W 64) i).take 7).set 0 (((((((rounds R stepsL (sched W 64) i).getD 7 0) + (((rr ((rounds R stepsL (sched W 64) i).getD 4 0) 6) ^^^ (rr ((rounds R stepsL (sched W 64) i).getD 4 0) 11)) ^^^ (rr ((rounds R stepsL (sched W 64) i).getD 4 0) 25))) + (((rounds R stepsL (sched W 64) i).getD 6 0) ^^^ (((rounds R stepsL (sched W 64) i).getD 4 0) &&& (((rounds R stepsL (sched W 64) i).getD 5 0) ^^^ ((rounds R stepsL (sched W 64) i).getD 6 0))))) + (stepsL.getD i 0)) + ((sched W 64).getD i 0)) + ((((rr ((rounds R stepsL (sched W 64) i).getD 0 0) 2) ^^^ (rr ((rounds R stepsL (sched W 64) i).getD 0 0) 13)) ^^^ (rr ((rounds R stepsL (sched W 64) i).getD 0 0) 22)) + ((((rounds R stepsL (sched W 64) i).getD 0 0) &&& ((rounds R stepsL (sched W 64) i).getD 1 0)) ||| (((rounds R stepsL (sched W 64) i).getD 2 0) &&& (((rounds R stepsL (sched W 64) i).getD 0 0) ||| ((rounds R stepsL (sched W 64) i).getD 1 0))))))).getD 4 0) + ((((((rounds R stepsL (sched W 64) i).getD 7 0) + (((rr ((rounds R stepsL (sched W 64) i).getD 4 0) 6) ^^^ (rr ((rounds R stepsL (sched W 64) i).getD 4 0) 11)) ^^^ (rr ((rounds R stepsL (sched W 64) i).getD 4 0) 25))) + (((rounds R stepsL (sched W 64) i).getD 6 0) ^^^ (((rounds R stepsL (sched W 64) i).getD 4 0) &&& (((rounds R stepsL (sched W 64) i).getD 5 0) ^^^ ((rounds R stepsL (sched W 64) i).getD 6 0))))) + (stepsL.getD i 0)) + ((sched W 64).getD i 0)))).map W4 = (rounds R stepsL (sched W 64) (i + 1)).map W4 from congrArg (List.map W4) ((rstep_prog (rounds_len hR i) (stepsL.getD i 0) ((sched W 64).getD i 0) rfl rfl).trans rounds_succ.symm))) ?_; exact tk_again (i + 1) (by first | exact trivial | omega | (dsimp only; omega)) (by first | omega | (dsimp only; omega)) sB (List.Sublist.refl _)
    · refine tk_R (H1 := []) rfl (congrArg (fun z_ => cel b7 z_ 214) (show (rounds R stepsL (sched W 64) i).map W4 = (rounds R stepsL (sched W 64) 64).map W4 from by rw [show i = 64 by omega])) <| tk_exit <| tk_then_exit <| tk_then_exit <| tk_in_hit <| tk_then <| s_r <| q_m rfl rfl <| s_n <| tk_block <| tk_R (H1 := [_, _]) rfl (congrArg (fun z_ => cel sb z_ 217) (show R.map W4 ++ (W.map B ++ ([IN n])) = (addI R (rounds R stepsL (sched W 64) 64) 0).map W4 ++ (W.map B ++ ([IN n])) from by rw [addI_0 hR])) <| tk_loop (X := Nat) (fun i => i ≤ 8) (fun i => [(0, PT sb), (7, PT b7), (163, IN i)]) (fun i => [cel b7 ((rounds R stepsL (sched W 64) 64).map W4) 214, cel b2 ((sched W 64).map W4) 422, cel sb ((addI R (rounds R stepsL (sched W 64) 64) i).map W4 ++ (W.map B ++ ([IN n]))) 217]) (fun i => 8 - i) (0) (by first | exact trivial | omega | (dsimp only; omega)) sB ((List.Sublist.refl _)) ?_
      rintro i hI
      try dsimp only at hI ⊢
      have hv : (rounds R stepsL (sched W 64) 64).length = 8 := rounds_len hR 64
      have ha : (addI R (rounds R stepsL (sched W 64) 64) i).length = 8 := addI_len
      refine s_r <| s_q rfl (y_lss rfl rfl) <| s_n <| tk_seq <| tk_condP rfl (fun ht164 => ?_) (fun ht164 => ?_)
      · refine tk_skip <| tk_then <| tk_seq <| tk_block <| s_r <| q_m rfl rfl <| q_a rfl rfl <| s_n <| tk_drawH [cel b7 ((rounds R stepsL (sched W 64) 64).map W4) 214, cel b2 ((sched W 64).map W4) 422, cel sb ((addI R (rounds R stepsL (sched W 64) 64) i).map W4 ++ (W.map B ++ ([IN n]))) 217] [13] kR <| s_x 0 rfl (y_move rfl) <| s_x 1 rfl (y_move rfl) <| s_x 2 rfl (y_nilCheck rfl) <| s_x 3 rfl (y_fld0 (o := 0) rfl kR) <| s_x 4 rfl (y_ixA01 8 (i := i) rfl rfl kR oM) <| s_l 5 rfl (fun _ h => h) (y_load rfl rfl (hc (o := i) (mm 2 rfl) (gM1 (d := 0) lenP))) <| s_x 6 rfl (y_move rfl) <| s_x 7 rfl (y_ixA01 8 (i := i) rfl rfl kR oM) <| s_l 8 rfl (fun _ h => h) (y_load rfl rfl (hc (o := i) (.head _) (gM (d := 0) lenP))) <| s_x 9 rfl (y_addW (a := (addI R (rounds R stepsL (sched W 64) 64) i).getD i 0) (b := (rounds R stepsL (sched W 64) 64).getD i 0) rfl rfl) <| s_x 10 rfl (y_nilCheck rfl) <| s_x 11 rfl (y_fld0 (o := 0) rfl kR) <| s_x 12 rfl (y_ixA01 8 (i := i) rfl rfl kR oM) <| tx_x 13 rfl kR rfl rfl <| a_storeE (H1 := [_, _]) (o := i) (v := W4 (((addI R (rounds R stepsL (sched W 64) 64) i).getD i 0) + ((rounds R stepsL (sched W 64) 64).getD i 0))) (cs' := ((addI R (rounds R stepsL (sched W 64) 64) i).set i (((addI R (rounds R stepsL (sched W 64) 64) i).getD i 0) + ((rounds R stepsL (sched W 64) 64).getD i 0))).map W4 ++ (W.map B ++ ([IN n]))) rfl rfl kR rfl rfl sW (sM1 lenP) ?_; exact tx_done kR <| tk_in_normal <| tk_then <| tk_region <| s_q rfl (y_addN (a := i) (b := 1) rfl rfl oM) <| q_m rfl rfl <| tk_nil <| tk_R (H1 := [_, _]) rfl (congrArg (fun z_ => cel sb z_ 217) (show ((addI R (rounds R stepsL (sched W 64) 64) i).set i (((addI R (rounds R stepsL (sched W 64) 64) i).getD i 0) + ((rounds R stepsL (sched W 64) 64).getD i 0))).map W4 ++ (W.map B ++ ([IN n])) = (addI R (rounds R stepsL (sched W 64) 64) (i + 1)).map W4 ++ (W.map B ++ ([IN n])) from by rw [addI_set oM])) <| tk_again (i + 1) (by first | exact trivial | omega | (dsimp only; omega)) (by first | omega | (dsimp only; omega)) sB (List.Sublist.refl _)
      · exact tk_R (H1 := [_, _]) rfl (congrArg (fun z_ => cel sb z_ 217) (show (addI R (rounds R stepsL (sched W 64) 64) i).map W4 ++ (W.map B ++ ([IN n])) = (blockF R W).map W4 ++ (W.map B ++ ([IN n])) from by rw [show i = 8 by omega, blockF])) <| tk_exit <| tk_then_exit <| tk_then_exit <| tk_in_hit <| tk_ret (()) (trivial) (.inr rfl) (r0 rfl) (.cons _ (.cons _ (List.Sublist.refl _)))
theorem take_spec {sb n : Nat} {R : List UInt32} {W l m : List UInt8} {v : Value} {w : World} (hS : SI l R W) (hv : Ro (Fs [cel sb (R.map W4 ++ (W.map B ++ [IN n])) 217]) w (rdB v m)) (hn : n = l.length) (hb : l.length + m.length < 1152921504606846976)
    (hg : Ro (Fs [cel sb (R.map W4 ++ (W.map B ++ [IN n])) 217]) w glob) (hh : Pre w [cel sb (R.map W4 ++ (W.map B ++ [IN n])) 217]) :
    Spec Tryz.prog 108 [PT sb, v] w [cel sb (R.map W4 ++ (W.map B ++ [IN n])) 217] (fun x : List UInt32 × List UInt8 => SI (l ++ m) x.1 x.2) (fun _ => .tuple #[])
      (fun x => [cel sb (x.1.map W4 ++ (x.2.map B ++ [I ((l.length + m.length : Nat) : Int)])) 217]) := by
  refine spec_of (n := 38) Tryz.func108 rfl rfl hh.1 hh.2 rfl ?_
  subst hn
  have hR80 := hS.1
  have hW640 := hS.2.1
  refine s_r <| q_m rfl rfl <| s_q rfl (y_lenRN (n' := m.length) rfl hv.1 rfl (by first | rfl | (rw [List.length_map]; omega) | simp)) <| q_m rfl rfl <| s_n <| tk_block <| tk_loop (X := Nat × List UInt32 × List UInt8) (fun (j, Rj, Wj) => j ≤ m.length ∧ SI (l ++ m.take j) Rj Wj) (fun (j, Rj, Wj) => [(0, PT sb), (6, v), (7, IN m.length), (8, IN j)]) (fun (j, Rj, Wj) => [cel sb (Rj.map W4 ++ (Wj.map B ++ ([I ((l.length + j : Nat) : Int)]))) 217]) (fun (j, Rj, Wj) => m.length - j) ((0, R, W)) (by dsimp only; exact ⟨Nat.zero_le _, by rw [List.take_zero, List.append_nil]; exact hS⟩) sB ((List.Sublist.refl _)) ?_
  rintro ⟨j, Rj, Wj⟩ hI
  try dsimp only at hI ⊢
  have hR8 := hI.2.1
  have hW64 := hI.2.2.1
  have hwv := hv.1
  refine s_r <| s_q rfl (y_lss rfl rfl) <| s_n <| tk_seq <| tk_condP rfl (fun ht9 => ?_) (fun ht9 => ?_)
  · refine tk_skip <| tk_then <| tk_seq <| tk_block <| s_r <| s_q rfl (y_ixR (j := j) rfl rfl hv.1 lenP kR) <| s_q rfl (y_load rfl rfl (fun w hw => ((fun w hw => Ro.rd hv hw) w hw).cell (gM (d := 0) lenP))) <| q_a rfl rfl <| s_n <| tk_seq <| tk_drawH [cel sb (Rj.map W4 ++ (Wj.map B ++ ([I ((l.length + j : Nat) : Int)]))) 217] [10] kR <| s_x 0 rfl (y_move rfl) <| s_x 1 rfl (y_move rfl) <| s_x 2 rfl (y_nilCheck rfl) <| s_x 3 rfl (y_fldN (o := 0) 72 rfl kR) <| s_l 4 rfl (fun _ h => h) (y_load rfl rfl (hc (o := 72) (.head _) (gA (k := 8) (i := 64) lenP oM (gA (k := 64) (i := 0) lenP oM (rfl))))) <| s_x 5 rfl (y_remN (a := l.length + j) (b := 64) rfl rfl oM) <| s_x 6 rfl (y_move rfl) <| s_x 7 rfl (y_nilCheck rfl) <| s_x 8 rfl (y_fldN (o := 0) 8 rfl kR) <| s_x 9 rfl (y_ixAN1 64 (o := 8) (i := (l.length + j) % 64) rfl rfl kR oM) <| tx_x 10 rfl kR rfl rfl <| a_storeE (H1 := []) (o := 8 + (l.length + j) % 64) (v := B (m.getD j 0)) (cs' := Rj.map W4 ++ ((Wj.set ((l.length + j) % 64) (m.getD j 0)).map B ++ ([I ((l.length + j : Nat) : Int)]))) rfl rfl kR rfl rfl sW (sA (k := 8) (i := (l.length + j) % 64) lenP oM (sM1 lenP)) <| tx_done kR ?_; refine tk_then <| s_r <| q_m rfl rfl <| s_q rfl (y_nilCheck rfl) <| s_q rfl (y_fldN (o := 0) 72 rfl kR) <| s_q rfl (y_load rfl rfl (hc (o := 72) (.head _) (gA (k := 8) (i := 64) lenP oM (gA (k := 64) (i := 0) lenP oM (rfl))))) <| s_q rfl (y_addN (a := l.length + j) (b := 1) rfl rfl oM) <| s_q rfl (y_nilCheck rfl) <| s_q rfl (y_fldN (o := 0) 72 rfl kR) <| tk_act rfl <| a_storeE (H1 := []) (o := 72) (v := I (((l.length + j) + 1 : Nat) : Int)) (cs' := Rj.map W4 ++ ((Wj.set ((l.length + j) % 64) (m.getD j 0)).map B ++ ([I (((l.length + j) + 1 : Nat) : Int)]))) rfl rfl kR rfl rfl sW (sA (k := 8) (i := 64) lenP oM (sA (k := 64) (i := 0) lenP oM (rfl))) <| s_n <| s_r <| q_m rfl rfl <| s_q rfl (y_nilCheck rfl) <| s_q rfl (y_fldN (o := 0) 72 rfl kR) <| s_q rfl (y_load rfl rfl (hc (o := 72) (.head _) (gA (k := 8) (i := 64) lenP oM (gA (k := 64) (i := 0) lenP oM (rfl))))) <| s_q rfl (y_remN (a := (l.length + j) + 1) (b := 64) rfl rfl oM) <| s_q rfl (y_eql rfl rfl) <| s_n <| tk_condP rfl (fun ht34 => ?_) (fun ht34 => ?_)
    · exact tk_region <| q_m rfl rfl <| tk_act rfl <| a_callv [] _ rfl kR rfl (fun w' hw' => turn_spec (R := Rj) (W := Wj.set ((l.length + j) % 64) (m.getD j 0)) (n := (l.length + j) + 1) lenP lenP (hg.call hw') (St.pre hw')) rfl fun _ _ => tk_nil <| tk_in_normal <| tk_then <| tk_region <| s_q rfl (y_addN (a := j) (b := 1) rfl rfl oM) <| q_m rfl rfl <| tk_nil <| tk_again ((j + 1, blockF Rj (Wj.set ((l.length + j) % 64) (m.getD j 0)), Wj.set ((l.length + j) % 64) (m.getD j 0))) (⟨by omega, SI_twrap hI.2 oM oM⟩) (by first | omega | (dsimp only; omega)) sB (List.Sublist.refl _)
    · exact tk_skip <| tk_in_normal <| tk_then <| tk_region <| s_q rfl (y_addN (a := j) (b := 1) rfl rfl oM) <| q_m rfl rfl <| tk_nil <| tk_again ((j + 1, Rj, Wj.set ((l.length + j) % 64) (m.getD j 0))) (⟨by omega, SI_tpush hI.2 oM oM⟩) (by first | omega | (dsimp only; omega)) sB (List.Sublist.refl _)
  · exact tk_exit <| tk_then_exit <| tk_then_exit <| tk_in_hit <| tk_R (H1 := []) rfl (congrArg (fun z_ => cel sb z_ 217) (show Rj.map W4 ++ (Wj.map B ++ ([I ((l.length + j : Nat) : Int)])) = Rj.map W4 ++ (Wj.map B ++ ([I ((l.length + m.length : Nat) : Int)])) from by rw [show j = m.length by omega])) <| tk_ret ((Rj, Wj)) (by have e : j = m.length := oM; have h := hI.2; rw [e, List.take_length] at h; exact h) (.inr rfl) (r0 rfl) (List.Sublist.refl _)
end Go.Proofs.YtnhpghhibcdklaaGreatDoor
set_option linter.unusedSimpArgs false
set_option linter.unusedVariables false
namespace Go.Proofs.YtnhpghhibcdklaaGreatDoor
open Go Go.RowKit
set_option maxRecDepth 100000
attribute [local irreducible] sumL outB keyedL hmKey xorPad xorI takeZ blockF len8 zc
theorem take_snocG {α : Type} {m : List α} {j : Nat} {d : α} (h : j < m.length) : m.take (j + 1) = m.take j ++ [m.getD j d] := by
  rw [List.take_add_one, List.getD_eq_getElem?_getD]; simp [h]
theorem flat_snoc {ps : List Sb} {j : Nat} {d : Sb} (h : j < ps.length) : (ps.take (j + 1)).flatMap Prod.snd = (ps.take j).flatMap Prod.snd ++ (ps.getD j d).2 := by
  rw [take_snocG (d := d) h, List.flatMap_append]; simp
theorem flat_le {ps : List Sb} {i : Nat} (h : i < ps.length) : ((ps.take i).flatMap Prod.snd).length + (ps.getD i dP).2.length ≤ (ps.flatMap Prod.snd).length := by
  have e : ps.flatMap Prod.snd = (ps.take (i + 1)).flatMap Prod.snd ++ (ps.drop (i + 1)).flatMap Prod.snd := by rw [← List.flatMap_append, List.take_append_drop]
  rw [e, flat_snoc (d := dP) h]; simp
theorem same_end {ps : List Sb} {l : List UInt8} {j : Nat} {e : UInt8} (h : e = 0 ↔ ∀ p ∈ ps.take j, p.2 = l) (hj : j = ps.length ∨ ps.length ≤ j) : ((e.toNat : Int) = 0) ↔ ∀ p ∈ ps, p.2 = l := by
  rw [List.take_of_length_le oM] at h
  rw [← h]
  constructor
  · intro h0; exact UInt8.toNat.inj (by simpa using h0)
  · rintro rfl; rfl
theorem end_spec {sb n : Nat} {R : List UInt32} {W l : List UInt8} {w : World} (hS : SI l R W) (hn : n = l.length) (hb : l.length < 1152921504606846000) (hg : Ro (Fs [cel sb (R.map W4 ++ (W.map B ++ [IN n])) 217]) w glob)
    (hh : Pre w [cel sb (R.map W4 ++ (W.map B ++ [IN n])) 217]) :
    Spec Tryz.prog 109 [PT sb] w [cel sb (R.map W4 ++ (W.map B ++ [IN n])) 217] (fun _ : Unit => True) (fun _ => Ag (sumL l)) (fun _ => []) := by
  refine spec_of (n := 56) Tryz.func109 rfl rfl hh.1 hh.2 rfl ?_
  subst hn
  have hR8 := hS.1
  have hW8 := hS.2.1
  refine s_r <| tk_act rfl <| a_allocL (cs := (List.replicate 32 0).map B) kR rfl fun b2 => s_n <| s_r <| q_m rfl rfl <| s_q rfl (y_nilCheck rfl) <| s_q rfl (y_fldN (o := 0) 72 rfl kR) <| s_q rfl (y_load rfl rfl (hc (o := 72) (mm 1 rfl) (gA (k := 8) (i := 64) lenP oM (gA (k := 64) (i := 0) lenP oM (rfl))))) <| s_q rfl (y_convi64 (m := l.length) rfl rfl rfl (wrap_u64 oM)) <| s_q rfl (y_shlU (a := l.length) (m := 3) rfl rfl dC oM) <| q_a rfl rfl <| s_n <| s_r <| q_m rfl rfl <| tk_act rfl <| a_slitN (vs := [B 128]) rfl (List.forall_mem_cons.2 ⟨rfl, (fun _ h => nomatch h)⟩) (EL64) rfl rfl dC fun b14 => tk_act rfl <| tk_ps [2] rfl <| a_callv [] _ rfl kR rfl (fun w' hw' => take_spec (l := l) (m := [128]) (n := l.length) hS (Ro.cel (b := b14) (o := 0) (m := 1) (cp := 1) (vs := [128].map B) hw' (.head _) (rfl) lQ lenP) lenP lenP (hg.call hw') (St.pre hw')) rfl fun ⟨R0, W0⟩ hS0 => ?_
  dsimp only at hS0 ⊢
  refine s_n <| tk_seq <| tk_block <| tk_R (H1 := []) rfl (congrArg (fun z_ => cel sb z_ 217) (show R0.map W4 ++ (W0.map B ++ ([I ((l.length + [128].length : Nat) : Int)])) = R0.map W4 ++ (W0.map B ++ ([I ((l.length + 1 + 0 : Nat) : Int)])) from by simp)) <| tk_loop (X := Nat × List UInt32 × List UInt8) (fun (j, Rj, Wj) => j ≤ zc l.length ∧ SI (l ++ [128] ++ List.replicate j 0) Rj Wj) (fun (j, Rj, Wj) => [(0, PT sb), (2, PT b2), (3, .int .u64 ((l.length * 2 ^ 3 : Nat) : Int))]) (fun (j, Rj, Wj) => [cel sb (Rj.map W4 ++ (Wj.map B ++ ([I ((l.length + 1 + j : Nat) : Int)]))) 217, cel b2 ((List.replicate 32 0).map B) 28]) (fun (j, Rj, Wj) => zc l.length - j) ((0, R0, W0)) (⟨Nat.zero_le _, by simpa using hS0⟩) sB ((.cons_cons _ (.cons _ (List.Sublist.refl _)))) ?_
  rintro ⟨j, Rj, Wj⟩ hI
  try dsimp only at hI ⊢
  have hR8 := hI.2.1
  have hW64 := hI.2.2.1
  have hz := zc_def l.length
  refine tk_seq <| s_r <| q_m rfl rfl <| s_q rfl (y_nilCheck rfl) <| s_q rfl (y_fldN (o := 0) 72 rfl kR) <| s_q rfl (y_load rfl rfl (hc (o := 72) (.head _) (gA (k := 8) (i := 64) lenP oM (gA (k := 64) (i := 0) lenP oM (rfl))))) <| s_q rfl (y_remN (a := l.length + 1 + j) (b := 64) rfl rfl oM) <| s_q rfl (y_neq rfl rfl) <| s_n <| tk_condP rfl (fun ht21 => ?_) (fun ht21 => ?_)
  · refine tk_skip <| tk_then <| tk_block <| tk_region <| q_m rfl rfl <| tk_act rfl <| a_slitN (vs := [B 0]) rfl (List.forall_mem_cons.2 ⟨rfl, (fun _ h => nomatch h)⟩) (EL64) rfl rfl dC fun b23 => tk_act rfl <| tk_ps [1] rfl <| a_callv [] _ rfl kR rfl (fun w' hw' => take_spec (l := l ++ [128] ++ List.replicate j 0) (m := [0]) (n := l.length + 1 + j) hI.2 (Ro.cel (b := b23) (o := 0) (m := 1) (cp := 1) (vs := [0].map B) hw' (.head _) (rfl) lQ lenP) lenP lenP (hg.call hw') (St.pre hw')) rfl fun ⟨R1, W1⟩ hS1 => ?_
    dsimp only at hS1 ⊢
    exact tk_nil <| tk_in_normal <| tk_R (H1 := []) rfl (congrArg (fun z_ => cel sb z_ 217) (show R1.map W4 ++ (W1.map B ++ ([I (((l ++ [128] ++ List.replicate j 0).length + [0].length : Nat) : Int)])) = R1.map W4 ++ (W1.map B ++ ([I ((l.length + 1 + (j + 1) : Nat) : Int)])) from by simp; omega)) <| tk_again ((j + 1, R1, W1)) (⟨by omega, by rw [List.replicate_succ', ← List.append_assoc]; exact hS1⟩) (by have h0 := ht21; dsimp only; omega) sB (.cons_cons _ (.cons _ (List.Sublist.refl _)))
  · refine tk_exit <| tk_then_exit <| tk_then_exit <| tk_in_hit <| tk_then <| tk_seq <| s_r <| q_a rfl rfl <| s_n <| tk_block ?_
    have hj : j = zc l.length := by omega
    refine tk_R (H1 := []) rfl (congrArg (fun z_ => cel sb z_ 217) (show Rj.map W4 ++ (Wj.map B ++ ([I ((l.length + 1 + j : Nat) : Int)])) = Rj.map W4 ++ (Wj.map B ++ ([I ((l.length + 1 + zc l.length + 0 : Nat) : Int)])) from by rw [hj]; rfl)) <| tk_loop (X := Nat × List UInt32 × List UInt8) (fun (j, Rj, Wj) => j ≤ 8 ∧ SI (l ++ [128] ++ List.replicate (zc l.length) 0 ++ len8 l.length j) Rj Wj) (fun (j, Rj, Wj) => [(0, PT sb), (2, PT b2), (3, .int .u64 ((l.length * 2 ^ 3 : Nat) : Int)), (4, I (56 - 8 * (j : Int)))]) (fun (j, Rj, Wj) => [cel sb (Rj.map W4 ++ (Wj.map B ++ ([I ((l.length + 1 + zc l.length + j : Nat) : Int)]))) 217, cel b2 ((List.replicate 32 0).map B) 28]) (fun (j, Rj, Wj) => 8 - j) ((0, Rj, Wj)) (⟨Nat.zero_le _, by have h := hI.2; rw [hj] at h; rw [len8_0, List.append_nil]; exact h⟩) sB ((List.Sublist.refl _)) ?_
    rintro ⟨j, Rj, Wj⟩ hI
    try dsimp only at hI ⊢
    have hR8 := hI.2.1
    have hW64 := hI.2.2.1
    have hz := zc_lt l.length
    refine tk_seq <| s_r <| q_m rfl rfl <| s_q rfl (y_geq rfl rfl) <| s_n <| tk_condP rfl (fun ht26 => ?_) (fun ht26 => ?_)
    · refine tk_skip <| tk_then <| tk_seq <| tk_block <| tk_region <| tk_re 4 (I (56 - 8 * (j : Int))) (I ((56 - 8 * j : Nat) : Int)) rfl (congrArg I oM) <| q_m rfl rfl <| q_m rfl rfl <| q_m rfl rfl <| s_q rfl (y_shrN (a := l.length * 2 ^ 3) (m := 56 - 8 * j) rfl rfl (by simp [IntKind.bits]; omega)) <| s_q rfl (y_convi8 (m := (l.length * 2 ^ 3) / 2 ^ (56 - 8 * j)) rfl rfl rfl) <| tk_act rfl <| a_slitN (vs := [B (UInt8.ofNat ((l.length * 2 ^ 3) / 2 ^ (56 - 8 * j)))]) rfl (List.forall_mem_cons.2 ⟨rfl, (fun _ h => nomatch h)⟩) (EL64) rfl rfl dC fun b34 => tk_act rfl <| tk_ps [1] rfl <| a_callv [] _ rfl kR rfl (fun w' hw' => take_spec (l := l ++ [128] ++ List.replicate (zc l.length) 0 ++ len8 l.length j) (m := [UInt8.ofNat ((l.length * 2 ^ 3) / 2 ^ (56 - 8 * j))]) (n := l.length + 1 + zc l.length + j) hI.2 (Ro.cel (b := b34) (o := 0) (m := 1) (cp := 1) (vs := [UInt8.ofNat ((l.length * 2 ^ 3) / 2 ^ (56 - 8 * j))].map B) hw' (.head _) (rfl) lQ lenP) lenP lenP (hg.call hw') (St.pre hw')) rfl fun ⟨R2, W2⟩ hS2 => ?_
      dsimp only at hS2 ⊢
      exact tk_nil <| tk_in_normal <| tk_then <| tk_region <| tk_re 4 (I ((56 - 8 * j : Nat) : Int)) (I (56 - 8 * (j : Int))) rfl (congrArg I oM) <| q_m rfl rfl <| s_q rfl (y_subI rfl rfl oM) <| q_a rfl rfl <| tk_nil <| tk_re 4 (I ((56 - 8 * (j : Int)) - (8 : Int))) (I (56 - 8 * ((j + 1 : Nat) : Int))) rfl (congrArg I oM) <| tk_R (H1 := []) rfl (congrArg (fun z_ => cel sb z_ 217) (show R2.map W4 ++ (W2.map B ++ ([I (((l ++ [128] ++ List.replicate (zc l.length) 0 ++ len8 l.length j).length + [UInt8.ofNat ((l.length * 2 ^ 3) / 2 ^ (56 - 8 * j))].length : Nat) : Int)])) = R2.map W4 ++ (W2.map B ++ ([I ((l.length + 1 + zc l.length + (j + 1) : Nat) : Int)])) from by simp; omega)) <| tk_again ((j + 1, R2, W2)) (⟨by omega, by rw [← len8_snoc, ← List.append_assoc]; exact hS2⟩) (by dsimp only; omega) sB (.cons_cons _ (.cons _ (List.Sublist.refl _)))
    · have hE : SI (pad l) Rj Wj := by have h := hI.2; rw [show j = 8 by omega] at h; exact h
      refine tk_exit <| tk_then_exit <| tk_then_exit <| tk_in_hit <| tk_then <| s_r <| tk_act rfl <| a_allocL (cs := (List.replicate 32 0).map B) kR rfl fun b5 => s_n <| tk_seq <| s_r <| q_m rfl rfl <| s_n <| tk_block <| tk_R (H1 := []) rfl (congrArg (fun z_ => cel b5 z_ 28) (show (List.replicate 32 0).map B = (takeZ (outB Rj) 32 0).map B from by rw [takeZ_0])) <| tk_loop (X := Nat) (fun i => i ≤ 32) (fun i => [(0, PT sb), (2, PT b2), (5, PT b5), (36, IN i)]) (fun i => [cel b5 ((takeZ (outB Rj) 32 i).map B) 28, cel sb (Rj.map W4 ++ (Wj.map B ++ ([I ((l.length + 1 + zc l.length + j : Nat) : Int)]))) 217, cel b2 ((List.replicate 32 0).map B) 28]) (fun i => 32 - i) (0) (by first | exact trivial | omega | (dsimp only; omega)) sB ((List.Sublist.refl _)) ?_
      rintro i hI
      try dsimp only at hI ⊢
      have hz : (takeZ (outB Rj) 32 i).length = 32 := takeZ_len outB_len oM
      refine s_r <| s_q rfl (y_lss rfl rfl) <| s_n <| tk_seq <| tk_condP rfl (fun ht37 => ?_) (fun ht37 => ?_)
      · refine tk_skip <| tk_then <| tk_seq <| tk_block <| s_r <| q_m rfl rfl <| q_a rfl rfl <| s_n <| tk_region <| q_m rfl rfl <| q_m rfl rfl <| q_m rfl rfl <| s_q rfl (y_quoN (a := i) (b := 4) rfl rfl oM) <| s_q rfl (y_nilCheck rfl) <| s_q rfl (y_fld0 (o := 0) rfl kR) <| s_q rfl (y_ixA01 8 (i := i / 4) rfl rfl kR oM) <| s_q rfl (y_load rfl rfl (hc (o := i / 4) (mm 1 rfl) (gM1 (d := 0) lenP))) <| q_m rfl rfl <| s_q rfl (y_remN (a := i) (b := 4) rfl rfl oM) <| s_q rfl (y_mulN (a := 8) (b := i % 4) rfl rfl oM) <| s_q rfl (y_subN (a := 24) (b := 8 * (i % 4)) rfl rfl oM) <| s_q rfl (y_shrW (a := Rj.getD (i / 4) 0) (m := 24 - (8 * (i % 4))) rfl rfl oM) <| s_q rfl (y_convW8 (a := (Rj.getD (i / 4) 0) >>> UInt32.ofNat (24 - (8 * (i % 4)))) rfl rfl rfl) <| s_q rfl (y_ixA01 32 (i := i) rfl rfl kR oM) ?_; exact tk_act rfl <| a_storeE (H1 := []) (o := i) (v := B (((Rj.getD (i / 4) 0) >>> UInt32.ofNat (24 - (8 * (i % 4)))).toUInt8)) (cs' := ((takeZ (outB Rj) 32 i).set i (((Rj.getD (i / 4) 0) >>> UInt32.ofNat (24 - (8 * (i % 4)))).toUInt8)).map B) rfl rfl kR rfl rfl sW (sM) <| tk_nil <| tk_in_normal <| tk_then <| tk_region <| s_q rfl (y_addN (a := i) (b := 1) rfl rfl oM) <| q_m rfl rfl <| tk_nil <| tk_R (H1 := []) rfl (congrArg (fun z_ => cel b5 z_ 28) (show ((takeZ (outB Rj) 32 i).set i (((Rj.getD (i / 4) 0) >>> UInt32.ofNat (24 - (8 * (i % 4)))).toUInt8)).map B = (takeZ (outB Rj) 32 (i + 1)).map B from congrArg (List.map B) (outZ_set oM))) <| tk_again (i + 1) (by first | exact trivial | omega | (dsimp only; omega)) (by first | omega | (dsimp only; omega)) sB (List.Sublist.refl _)
      · exact tk_R (H1 := []) rfl (congrArg (fun z_ => cel b5 z_ 28) (show (takeZ (outB Rj) 32 i).map B = (sumL l).map B from by rw [show i = 32 by omega, takeZ_all outB_len, sum_end hE])) <| tk_exit <| tk_then_exit <| tk_then_exit <| tk_in_hit <| tk_then <| s_r <| s_q rfl (y_loadA 32 rfl kR lenP (hcw (.head _))) <| tk_act rfl <| a_storeW (H1 := [_, _]) (vs := (sumL l).map B) 32 rfl rfl kR rfl ⟨lenP, lenP⟩ oneB <| s_n <| tk_retc <| tk_ret (()) (trivial) (.inl rfl) (rc (vs := (sumL l).map B) rfl rfl (by simp; kernel_rfl) (hcw (mm 2 rfl))) (List.nil_sublist _)
theorem of_spec {v : Value} {ps : List Sb} {L : List UInt8} {w : World} (hv : Ro (Fs []) w (rd v (ps.map Prod.fst))) (hp : ∀ p ∈ ps, Ro (Fs []) w (rdB p.1 p.2)) (hL : ps.flatMap Prod.snd = L) (hb : L.length < 1152921504606846000) (hn : ps.length < 4611686018427387904) (hg : Ro (Fs []) w glob) :
    Spec Tryz.prog 57 [v] w [] (fun _ : Unit => True) (fun _ => Ag (sumL L)) (fun _ => []) := by
  refine spec_of (n := 18) Tryz.func57 rfl rfl trivial trivial rfl ?_
  have h8 : beginL.length = 8 := rfl
  have hLl : (ps.flatMap Prod.snd).length = L.length := by rw [hL]
  refine s_r <| tk_act rfl <| a_allocL (cs := (List.replicate 32 0).map B) kR rfl fun b2 => s_n <| s_r <| s_q rfl (y_loadA (vs := beginL.map W4) 8 rfl kR rfl (fun w hw j u hj => by rw [add_w, Nat.zero_add]; exact (Ro.st (p := glob) hg hw).1 _ _ hj)) <| s_q rfl (y_build (v := .agg (beginL.map W4 ++ ((List.replicate 64 0).map B ++ ([I 0]))).toArray) (vs := [(0, .agg (beginL.map W4).toArray)]) rfl (fun _ => kR)) <| tk_act rfl <| a_allocL (cs := (List.replicate 8 0).map W4 ++ ((List.replicate 64 0).map B ++ ([I 0]))) kR rfl fun b3 => tk_act rfl <| a_storeW (H1 := []) (vs := beginL.map W4 ++ ((List.replicate 64 0).map B ++ ([I 0]))) 73 rfl rfl kR rfl ⟨lenP, lenP⟩ (List.forall_mem_append.2 ⟨oneW, (List.forall_mem_append.2 ⟨oneB, (List.forall_mem_cons.2 ⟨rfl, (fun _ h => nomatch h)⟩)⟩)⟩) <| s_n <| tk_seq <| s_r <| q_m rfl rfl <| s_q rfl (y_lenRN (n' := ps.length) rfl hv.1 rfl (by first | rfl | (rw [List.length_map]; omega) | simp)) <| q_m rfl rfl <| s_n <| tk_block <| tk_loop (X := Nat × List UInt32 × List UInt8) (fun (j, Rj, Wj) => j ≤ ps.length ∧ SI ((ps.take j).flatMap Prod.snd) Rj Wj) (fun (j, Rj, Wj) => [(2, PT b2), (3, PT b3), (8, v), (9, IN ps.length), (10, IN j)]) (fun (j, Rj, Wj) => [cel b3 (Rj.map W4 ++ (Wj.map B ++ ([I ((((ps.take j).flatMap Prod.snd).length : Nat) : Int)]))) 217, cel b2 ((List.replicate 32 0).map B) 28]) (fun (j, Rj, Wj) => ps.length - j) ((0, beginL, List.replicate 64 0)) (⟨Nat.zero_le _, SI_zero sI⟩) sB ((List.Sublist.refl _)) ?_
  rintro ⟨j, Rj, Wj⟩ hI
  try dsimp only at hI ⊢
  have hR8 := hI.2.1
  have hW64 := hI.2.2.1
  have hfl : ∀ i, i < ps.length → ((ps.take i).flatMap Prod.snd).length + (ps.getD i dP).2.length ≤ (ps.flatMap Prod.snd).length := fun i hi => flat_le hi
  refine s_r <| s_q rfl (y_lss rfl rfl) <| s_n <| tk_seq <| tk_condP rfl (fun ht11 => ?_) (fun ht11 => ?_)
  · refine tk_skip <| tk_then <| tk_seq <| tk_block <| s_r <| s_q rfl (y_ixR (j := j) rfl rfl hv.1 lenP kR) <| s_q rfl (y_load rfl rfl (fun w hw => ((fun w hw => Ro.rd hv hw) w hw).cell (gM (f := Prod.fst) (d := dP) lenP))) <| q_a rfl rfl <| s_n <| tk_region <| q_m rfl rfl ?_
    have hfj := hfl j oM
    refine tk_act rfl <| a_callv [] _ rfl kR rfl (fun w' hw' => take_spec (l := (ps.take j).flatMap Prod.snd) (m := (ps.getD j dP).2) (n := ((ps.take j).flatMap Prod.snd).length) hI.2 (Ro.call (hp _ (getD_mem lenP)) hw') lenP lenP (hg.call hw') (St.pre hw')) rfl fun ⟨R0, W0⟩ hS0 => ?_
    dsimp only at hS0 ⊢
    exact tk_nil <| tk_in_normal <| tk_then <| tk_region <| s_q rfl (y_addN (a := j) (b := 1) rfl rfl oM) <| q_m rfl rfl <| tk_nil <| tk_R (H1 := []) rfl (congrArg (fun z_ => cel b3 z_ 217) (show R0.map W4 ++ (W0.map B ++ ([I ((((ps.take j).flatMap Prod.snd).length + ((ps.getD j dP).2).length : Nat) : Int)])) = R0.map W4 ++ (W0.map B ++ ([I ((((ps.take (j + 1)).flatMap Prod.snd).length : Nat) : Int)])) from by rw [flat_snoc (d := dP) oM, List.length_append])) <| tk_again ((j + 1, R0, W0)) (⟨by omega, by rw [flat_snoc oM]; exact hS0⟩) (by first | omega | (dsimp only; omega)) sB (List.Sublist.refl _)
  · have hE : SI L Rj Wj := by have h := hI.2; rw [show j = ps.length by omega, List.take_length, hL] at h; exact h
    exact tk_R (H1 := []) rfl (congrArg (fun z_ => cel b3 z_ 217) (show Rj.map W4 ++ (Wj.map B ++ ([I ((((ps.take j).flatMap Prod.snd).length : Nat) : Int)])) = Rj.map W4 ++ (Wj.map B ++ ([IN L.length])) from by rw [show j = ps.length by omega, List.take_length, hL])) <| tk_exit <| tk_then_exit <| tk_then_exit <| tk_in_hit <| tk_then <| s_r <| tk_act rfl <| a_callv [] _ rfl kR rfl (fun w' hw' => end_spec (l := L) hE lenP lenP (hg.call hw') (St.pre hw')) rfl fun _ _ => tk_act rfl <| a_storeW (H1 := []) (vs := (sumL L).map B) 32 rfl rfl kR rfl ⟨lenP, lenP⟩ oneB <| s_n <| tk_retc <| tk_ret (()) (trivial) (.inl rfl) (rc (vs := (sumL L).map B) rfl rfl (by simp; kernel_rfl) (hcw (.head _))) (List.nil_sublist _)
theorem keyed_spec {kv v : Value} {k : List UInt8} {ps : List Sb} {L : List UInt8} {w : World} (hk : Ro (Fs []) w (rdB kv k)) (hv : Ro (Fs []) w (rd v (ps.map Prod.fst))) (hp : ∀ p ∈ ps, Ro (Fs []) w (rdB p.1 p.2)) (hL : ps.flatMap Prod.snd = L)
    (hb : k.length < 1099511627776 ∧ L.length < 1099511627776 ∧ ps.length < 1099511627776) (hg : Ro (Fs []) w glob) :
    Spec Tryz.prog 221 [kv, v] w [] (fun _ : Unit => True) (fun _ => Ag (keyedL k L)) (fun _ => []) := by
  refine spec_of (n := 46) Tryz.func221 rfl rfl trivial trivial rfl <| s_r <| tk_act rfl <| a_allocL (cs := (List.replicate 32 0).map B) kR rfl fun b4 => s_n <| tk_seq <| s_r <| q_m rfl rfl <| s_q rfl (y_lenRN (n' := k.length) rfl hk.1 rfl (by first | rfl | (rw [List.length_map]; omega) | simp)) <| s_q rfl (y_gtr rfl rfl) <| s_n <| tk_condP rfl (fun ht12 => ?_) (fun ht12 => ?_)
  · have hk0 : hmKey k = sumL (k) := by unfold hmKey; rw [if_pos oM]
    have hk1 : (sumL (k)).length = 32 := sumL_len
    refine s_r <| q_m rfl rfl <| tk_act rfl <| a_slitN (vs := [kv]) rfl (List.forall_mem_cons.2 ⟨(RdS.one hk.1), (fun _ h => nomatch h)⟩) (EL208) rfl rfl dC fun b14 => tk_act rfl <| a_callv [] _ rfl kR rfl (fun w' hw' => of_spec (ps := [(kv, k)]) (L := k) (Ro.cel (vs := [kv]) hw' (.head _) rS rfl dC) (List.forall_mem_cons.2 ⟨(Ro.call (H0 := []) hk hw'), (fun _ h => nomatch h)⟩) sI lenP lenP (hg.call hw')) rfl fun _ _ => tk_act rfl <| a_allocL (cs := (List.replicate 32 0).map B) kR rfl fun b5 => tk_act rfl <| a_storeW (H1 := []) (vs := (sumL k).map B) 32 rfl rfl kR rfl ⟨lenP, lenP⟩ oneB <| s_n <| tk_region <| s_q rfl (y_cutA (m := 32) (sz := 1) rfl kR) <| q_a rfl rfl <| s_n <| s_r <| tk_act rfl <| a_allocL (cs := (List.replicate 64 0).map B) kR rfl fun b6 => tk_act rfl <| a_allocL (cs := (List.replicate 64 0).map B) kR rfl fun b7 => s_n <| s_r <| s_q rfl (y_cutA (m := 64) (sz := 1) rfl kR) <| q_m rfl rfl ?_; refine tk_act rfl <| a_copyR (H1 := [_]) (pre := []) (mid := (List.replicate (sumL k).length 0).map B) (post := (List.replicate (64 - (sumL k).length) 0).map B) (vs := (sumL k).map B) (us := (sumL k).map B) (cs' := (xorI (hmKey k) 54 0).map B) rfl rfl rfl kR rfl rfl (fun w hw => cel_rdE (o := 0) (m := 32) (cp := 32) (vs := (sumL k).map B) (hw.mem (mm 2 rfl)) (dsW) lQ lenP) (m := (sumL k).length) lenP (by rw [List.take_of_length_le sI]) oneB ⟨by simp, rfl⟩ (by rw [List.nil_append, ← List.map_append, List.replicate_append_replicate]; congr 2; omega) (by rw [xorI_0 hmKey_len, List.map_append, List.nil_append, hk0]) <| s_n <| s_r <| s_q rfl (y_cutA (m := 64) (sz := 1) rfl kR) <| q_m rfl rfl <| tk_act rfl <| a_copyR (H1 := []) (pre := []) (mid := (List.replicate (sumL k).length 0).map B) (post := (List.replicate (64 - (sumL k).length) 0).map B) (vs := (sumL k).map B) (us := (sumL k).map B) (cs' := (xorI (hmKey k) 92 0).map B) rfl rfl rfl kR rfl rfl (fun w hw => cel_rdE (o := 0) (m := 32) (cp := 32) (vs := (sumL k).map B) (hw.mem (mm 2 rfl)) (dsW) lQ lenP) (m := (sumL k).length) lenP (by rw [List.take_of_length_le sI]) oneB ⟨by simp, rfl⟩ (by rw [List.nil_append, ← List.map_append, List.replicate_append_replicate]; congr 2; omega) (by rw [xorI_0 hmKey_len, List.map_append, List.nil_append, hk0]) <| s_n <| tk_seq <| s_r <| q_m rfl rfl <| s_n <| tk_block <| tk_loop (X := Nat) (fun i => i ≤ 64) (fun i => [(1, v), (4, PT b4), (6, PT b6), (7, PT b7), (23, IN i)]) (fun i => [cel b7 ((xorI (hmKey k) 92 i).map B) 215, cel b6 ((xorI (hmKey k) 54 i).map B) 215, cel b5 ((sumL k).map B) 28, cel b14 ([kv]) 64, cel b4 ((List.replicate 32 0).map B) 28]) (fun i => 64 - i) (0) (by first | exact trivial | omega | (dsimp only; omega)) sB ((List.Sublist.refl _)) ?_
    rintro i hI
    try dsimp only at hI ⊢
    have hx1 : (xorI (hmKey k) 54 i).length = 64 := xorI_len
    have hx2 : (xorI (hmKey k) 92 i).length = 64 := xorI_len
    refine s_r <| s_q rfl (y_lss rfl rfl) <| s_n <| tk_seq <| tk_condP rfl (fun ht24 => ?_) (fun ht24 => ?_)
    · refine tk_skip <| tk_then <| tk_seq <| tk_block <| s_r <| q_m rfl rfl <| q_a rfl rfl <| s_n <| s_r <| q_m rfl rfl <| s_q rfl (y_ixA01 64 (i := i) rfl rfl kR oM) <| s_q rfl (y_load rfl rfl (hc (o := i) (mm 1 rfl) (gM (d := 0) lenP))) <| s_q rfl (y_xor8 (a := (xorI (hmKey k) 54 i).getD i 0) (b := 54) rfl rfl) <| s_q rfl (y_ixA01 64 (i := i) rfl rfl kR oM) <| tk_act rfl <| a_storeE (H1 := [_]) (o := i) (v := B (((xorI (hmKey k) 54 i).getD i 0) ^^^ 54)) (cs' := ((xorI (hmKey k) 54 i).set i (((xorI (hmKey k) 54 i).getD i 0) ^^^ 54)).map B) rfl rfl kR rfl rfl sW (sM) <| s_n <| tk_region <| q_m rfl rfl <| s_q rfl (y_ixA01 64 (i := i) rfl rfl kR oM) <| s_q rfl (y_load rfl rfl (hc (o := i) (.head _) (gM (d := 0) lenP))) <| s_q rfl (y_xor8 (a := (xorI (hmKey k) 92 i).getD i 0) (b := 92) rfl rfl) <| s_q rfl (y_ixA01 64 (i := i) rfl rfl kR oM) <| tk_act rfl ?_; exact a_storeE (H1 := []) (o := i) (v := B (((xorI (hmKey k) 92 i).getD i 0) ^^^ 92)) (cs' := ((xorI (hmKey k) 92 i).set i (((xorI (hmKey k) 92 i).getD i 0) ^^^ 92)).map B) rfl rfl kR rfl rfl sW (sM) <| tk_nil <| tk_in_normal <| tk_then <| tk_region <| s_q rfl (y_addN (a := i) (b := 1) rfl rfl oM) <| q_m rfl rfl <| tk_nil <| tk_R (H1 := [_]) rfl (congrArg (fun z_ => cel b6 z_ 215) (show ((xorI (hmKey k) 54 i).set i (((xorI (hmKey k) 54 i).getD i 0) ^^^ 54)).map B = (xorI (hmKey k) 54 (i + 1)).map B from congrArg (List.map B) (xorI_set oM))) <| tk_R (H1 := []) rfl (congrArg (fun z_ => cel b7 z_ 215) (show ((xorI (hmKey k) 92 i).set i (((xorI (hmKey k) 92 i).getD i 0) ^^^ 92)).map B = (xorI (hmKey k) 92 (i + 1)).map B from congrArg (List.map B) (xorI_set oM))) <| tk_again (i + 1) (by first | exact trivial | omega | (dsimp only; omega)) (by first | omega | (dsimp only; omega)) sB (List.Sublist.refl _)
    · refine tk_R (H1 := [_]) rfl (congrArg (fun z_ => cel b6 z_ 215) (show (xorI (hmKey k) 54 i).map B = (xorPad (hmKey k) 54).map B from by rw [show i = 64 by omega, xorI_64])) <| tk_R (H1 := []) rfl (congrArg (fun z_ => cel b7 z_ 215) (show (xorI (hmKey k) 92 i).map B = (xorPad (hmKey k) 92).map B from by rw [show i = 64 by omega, xorI_64])) <| tk_exit <| tk_then_exit <| tk_then_exit <| tk_in_hit <| tk_then <| s_r <| s_q rfl (y_cutA (m := 64) (sz := 1) rfl kR) <| tk_act rfl <| a_slitN (vs := [.slice (some ⟨b6, 0, none⟩) 64 64]) rfl (List.forall_mem_cons.2 ⟨rfl, (fun _ h => nomatch h)⟩) (EL208) rfl rfl dC fun b38 => q_m rfl rfl <| tk_celOwn (H1 := []) (e := 64) (n := 1) rfl sI (by simp [maxLen]) <| tk_act rfl <| a_appendR (H1 := []) (n := 1) (xs := [.slice (some ⟨b6, 0, none⟩) 64 64]) (news := ps.map Prod.fst) rfl rfl EL208 rfl rfl (fun w hw => Ro.rd hv hw) (by intro u hu; obtain ⟨p, hp1, rfl⟩ := List.mem_map.1 hu; exact (hp p hp1).1.one) lenP fun v40 => tk_act rfl <| a_callv [] _ rfl kR rfl (fun w' hw' => of_spec (ps := (.slice (some ⟨b6, 0, none⟩) 64 64, xorPad (hmKey k) 54) :: ps) (L := xorPad (hmKey k) 54 ++ L) (Ro.own (H0 := []) (n := 1 + (ps.map Prod.fst).length) hw' (.head _)) (List.forall_mem_cons.2 ⟨(Ro.cel (H0 := []) (b := b6) (o := 0) (m := 64) (cp := 64) (vs := (xorPad (hmKey k) 54).map B) hw' (mm 2 rfl) (dsW) lQ lenP), fun p hp0 => (hp p hp0).call hw'⟩) (by simp [hL]) lenP sO (hg.call hw')) rfl fun _ _ => tk_act rfl <| a_allocL (cs := (List.replicate 32 0).map B) kR rfl fun b9 => tk_act rfl <| a_storeW (H1 := []) (vs := (sumL (xorPad (hmKey k) 54 ++ L)).map B) 32 rfl rfl kR rfl ⟨lenP, lenP⟩ oneB <| s_n <| tk_seq <| tk_drawH [cel b9 ((sumL (xorPad (hmKey k) 54 ++ L)).map B) 28, own v40 (1 + (ps.map Prod.fst).length) ([.slice (some ⟨b6, 0, none⟩) 64 64] ++ ps.map Prod.fst) 64 1, cel b7 ((xorPad (hmKey k) 92).map B) 215, cel b6 ((xorPad (hmKey k) 54).map B) 215, cel b5 ((sumL k).map B) 28, cel b14 ([kv]) 64] [] kR ?_; exact s_x 0 rfl (y_cutA (m := 64) (sz := 1) rfl kR) <| s_x 1 rfl (y_cutA (m := 32) (sz := 1) rfl kR) <| tx_a 2 rfl kR rfl <| a_slitN (vs := [.slice (some ⟨b7, 0, none⟩) 64 64, .slice (some ⟨b9, 0, none⟩) 32 32]) rfl (List.forall_mem_cons.2 ⟨rfl, (List.forall_mem_cons.2 ⟨rfl, (fun _ h => nomatch h)⟩)⟩) (EL208) rfl rfl dC fun b44 => tk_S (fun _ h => kS [1, 0, 0, 0, 0, 0] rfl h) <| tx_more [cel b44 ([Value.slice (some ⟨b7, 0, none⟩) 64 64, .slice (some ⟨b9, 0, none⟩) 32 32]) 64, cel b9 ((sumL (xorPad (hmKey k) 54 ++ L)).map B) 28, own v40 (1 + (ps.map Prod.fst).length) ([.slice (some ⟨b6, 0, none⟩) 64 64] ++ ps.map Prod.fst) 64 1, cel b7 ((xorPad (hmKey k) 92).map B) 215, cel b6 ((xorPad (hmKey k) 54).map B) 215, cel b5 ((sumL k).map B) 28, cel b14 ([kv]) 64] (fun _ h => kD 1 rfl h) (fun _ h => kS [0, 0, 0, 0, 0, 0, 0] rfl h) <| tx_a 3 rfl kR rfl <| a_callv [] _ rfl kR rfl (fun w' hw' => of_spec (ps := [(.slice (some ⟨b7, 0, none⟩) 64 64, xorPad (hmKey k) 92), (.slice (some ⟨b9, 0, none⟩) 32 32, sumL (xorPad (hmKey k) 54 ++ L))]) (L := (xorPad (hmKey k) 92) ++ (sumL (xorPad (hmKey k) 54 ++ L))) (Ro.cel (vs := [.slice (some ⟨b7, 0, none⟩) 64 64, .slice (some ⟨b9, 0, none⟩) 32 32]) hw' (.head _) rS rfl dC) (List.forall_mem_cons.2 ⟨(Ro.cel (H0 := []) (b := b7) (o := 0) (m := 64) (cp := 64) (vs := (xorPad (hmKey k) 92).map B) hw' (mm 3 rfl) (dsW) lQ lenP), (List.forall_mem_cons.2 ⟨(Ro.cel (H0 := []) (b := b9) (o := 0) (m := 32) (cp := 32) (vs := (sumL (xorPad (hmKey k) 54 ++ L)).map B) hw' (mm 1 rfl) (dsW) lQ lenP), (fun _ h => nomatch h)⟩)⟩) sI lenP lenP (hg.call hw')) rfl fun _ _ => tk_S (fun _ h => kS [0, 0, 0, 0, 0, 0, 0] rfl h) <| tk_re 45 (.agg ((sumL ((xorPad (hmKey k) 92) ++ (sumL (xorPad (hmKey k) 54 ++ L)))).map B).toArray) (.agg ((keyedL k L).map B).toArray) rfl (by simp only [keyedL]) <| tx_a 4 rfl kR rfl <| a_storeW (H1 := [_, _, _, _, _, _, _]) (vs := (keyedL k L).map B) 32 rfl rfl kR rfl ⟨lenP, lenP⟩ oneB <| tk_S (fun _ h => kS [0, 0, 0, 0, 0, 0, 0] rfl h) <| tx_done kR <| tk_then <| tk_retc <| tk_ret (()) (trivial) (.inl rfl) (rc (vs := (keyedL k L).map B) rfl rfl (by simp; kernel_rfl) (hcw (mm 7 rfl))) (List.nil_sublist _)
  · have hk0 : hmKey k = k := by unfold hmKey; rw [if_neg oM]
    refine tk_skip <| tk_then <| s_r <| tk_act rfl <| a_allocL (cs := (List.replicate 64 0).map B) kR rfl fun b6 => tk_act rfl <| a_allocL (cs := (List.replicate 64 0).map B) kR rfl fun b7 => s_n <| s_r <| s_q rfl (y_cutA (m := 64) (sz := 1) rfl kR) <| q_m rfl rfl <| tk_act rfl <| a_copyR (H1 := [_]) (pre := []) (mid := (List.replicate (k).length 0).map B) (post := (List.replicate (64 - (k).length) 0).map B) (vs := (k).map B) (us := (k).map B) (cs' := (xorI (hmKey k) 54 0).map B) rfl rfl rfl kR rfl rfl (fun w hw => Ro.rd hk hw) (m := (k).length) lenP (by rw [List.take_of_length_le sI]) oneB ⟨by simp, rfl⟩ (by rw [List.nil_append, ← List.map_append, List.replicate_append_replicate]; congr 2; omega) (by rw [xorI_0 hmKey_len, List.map_append, List.nil_append, hk0]) <| s_n <| s_r <| s_q rfl (y_cutA (m := 64) (sz := 1) rfl kR) <| q_m rfl rfl <| tk_act rfl <| a_copyR (H1 := []) (pre := []) (mid := (List.replicate (k).length 0).map B) (post := (List.replicate (64 - (k).length) 0).map B) (vs := (k).map B) (us := (k).map B) (cs' := (xorI (hmKey k) 92 0).map B) rfl rfl rfl kR rfl rfl (fun w hw => Ro.rd hk hw) (m := (k).length) lenP (by rw [List.take_of_length_le sI]) oneB ⟨by simp, rfl⟩ (by rw [List.nil_append, ← List.map_append, List.replicate_append_replicate]; congr 2; omega) (by rw [xorI_0 hmKey_len, List.map_append, List.nil_append, hk0]) <| s_n <| tk_seq <| s_r <| q_m rfl rfl <| s_n ?_; refine tk_block <| tk_loop (X := Nat) (fun i => i ≤ 64) (fun i => [(1, v), (4, PT b4), (6, PT b6), (7, PT b7), (23, IN i)]) (fun i => [cel b7 ((xorI (hmKey k) 92 i).map B) 215, cel b6 ((xorI (hmKey k) 54 i).map B) 215, cel b4 ((List.replicate 32 0).map B) 28]) (fun i => 64 - i) (0) (by first | exact trivial | omega | (dsimp only; omega)) sB ((List.Sublist.refl _)) ?_
    rintro i hI
    try dsimp only at hI ⊢
    have hx1 : (xorI (hmKey k) 54 i).length = 64 := xorI_len
    have hx2 : (xorI (hmKey k) 92 i).length = 64 := xorI_len
    refine s_r <| s_q rfl (y_lss rfl rfl) <| s_n <| tk_seq <| tk_condP rfl (fun ht24 => ?_) (fun ht24 => ?_)
    · refine tk_skip <| tk_then <| tk_seq <| tk_block <| s_r <| q_m rfl rfl <| q_a rfl rfl <| s_n <| s_r <| q_m rfl rfl <| s_q rfl (y_ixA01 64 (i := i) rfl rfl kR oM) <| s_q rfl (y_load rfl rfl (hc (o := i) (mm 1 rfl) (gM (d := 0) lenP))) <| s_q rfl (y_xor8 (a := (xorI (hmKey k) 54 i).getD i 0) (b := 54) rfl rfl) <| s_q rfl (y_ixA01 64 (i := i) rfl rfl kR oM) <| tk_act rfl <| a_storeE (H1 := [_]) (o := i) (v := B (((xorI (hmKey k) 54 i).getD i 0) ^^^ 54)) (cs' := ((xorI (hmKey k) 54 i).set i (((xorI (hmKey k) 54 i).getD i 0) ^^^ 54)).map B) rfl rfl kR rfl rfl sW (sM) <| s_n <| tk_region <| q_m rfl rfl <| s_q rfl (y_ixA01 64 (i := i) rfl rfl kR oM) <| s_q rfl (y_load rfl rfl (hc (o := i) (.head _) (gM (d := 0) lenP))) <| s_q rfl (y_xor8 (a := (xorI (hmKey k) 92 i).getD i 0) (b := 92) rfl rfl) <| s_q rfl (y_ixA01 64 (i := i) rfl rfl kR oM) <| tk_act rfl ?_; exact a_storeE (H1 := []) (o := i) (v := B (((xorI (hmKey k) 92 i).getD i 0) ^^^ 92)) (cs' := ((xorI (hmKey k) 92 i).set i (((xorI (hmKey k) 92 i).getD i 0) ^^^ 92)).map B) rfl rfl kR rfl rfl sW (sM) <| tk_nil <| tk_in_normal <| tk_then <| tk_region <| s_q rfl (y_addN (a := i) (b := 1) rfl rfl oM) <| q_m rfl rfl <| tk_nil <| tk_R (H1 := [_]) rfl (congrArg (fun z_ => cel b6 z_ 215) (show ((xorI (hmKey k) 54 i).set i (((xorI (hmKey k) 54 i).getD i 0) ^^^ 54)).map B = (xorI (hmKey k) 54 (i + 1)).map B from congrArg (List.map B) (xorI_set oM))) <| tk_R (H1 := []) rfl (congrArg (fun z_ => cel b7 z_ 215) (show ((xorI (hmKey k) 92 i).set i (((xorI (hmKey k) 92 i).getD i 0) ^^^ 92)).map B = (xorI (hmKey k) 92 (i + 1)).map B from congrArg (List.map B) (xorI_set oM))) <| tk_again (i + 1) (by first | exact trivial | omega | (dsimp only; omega)) (by first | omega | (dsimp only; omega)) sB (List.Sublist.refl _)
    · refine tk_R (H1 := [_]) rfl (congrArg (fun z_ => cel b6 z_ 215) (show (xorI (hmKey k) 54 i).map B = (xorPad (hmKey k) 54).map B from by rw [show i = 64 by omega, xorI_64])) <| tk_R (H1 := []) rfl (congrArg (fun z_ => cel b7 z_ 215) (show (xorI (hmKey k) 92 i).map B = (xorPad (hmKey k) 92).map B from by rw [show i = 64 by omega, xorI_64])) <| tk_exit <| tk_then_exit <| tk_then_exit <| tk_in_hit <| tk_then <| s_r <| s_q rfl (y_cutA (m := 64) (sz := 1) rfl kR) <| tk_act rfl <| a_slitN (vs := [.slice (some ⟨b6, 0, none⟩) 64 64]) rfl (List.forall_mem_cons.2 ⟨rfl, (fun _ h => nomatch h)⟩) (EL208) rfl rfl dC fun b38 => q_m rfl rfl <| tk_celOwn (H1 := []) (e := 64) (n := 1) rfl sI (by simp [maxLen]) <| tk_act rfl <| a_appendR (H1 := []) (n := 1) (xs := [.slice (some ⟨b6, 0, none⟩) 64 64]) (news := ps.map Prod.fst) rfl rfl EL208 rfl rfl (fun w hw => Ro.rd hv hw) (by intro u hu; obtain ⟨p, hp1, rfl⟩ := List.mem_map.1 hu; exact (hp p hp1).1.one) lenP fun v40 => tk_act rfl <| a_callv [] _ rfl kR rfl (fun w' hw' => of_spec (ps := (.slice (some ⟨b6, 0, none⟩) 64 64, xorPad (hmKey k) 54) :: ps) (L := xorPad (hmKey k) 54 ++ L) (Ro.own (H0 := []) (n := 1 + (ps.map Prod.fst).length) hw' (.head _)) (List.forall_mem_cons.2 ⟨(Ro.cel (H0 := []) (b := b6) (o := 0) (m := 64) (cp := 64) (vs := (xorPad (hmKey k) 54).map B) hw' (mm 2 rfl) (dsW) lQ lenP), fun p hp0 => (hp p hp0).call hw'⟩) (by simp [hL]) lenP sO (hg.call hw')) rfl fun _ _ => tk_act rfl <| a_allocL (cs := (List.replicate 32 0).map B) kR rfl fun b9 => tk_act rfl <| a_storeW (H1 := []) (vs := (sumL (xorPad (hmKey k) 54 ++ L)).map B) 32 rfl rfl kR rfl ⟨lenP, lenP⟩ oneB <| s_n <| tk_seq <| tk_drawH [cel b9 ((sumL (xorPad (hmKey k) 54 ++ L)).map B) 28, own v40 (1 + (ps.map Prod.fst).length) ([.slice (some ⟨b6, 0, none⟩) 64 64] ++ ps.map Prod.fst) 64 1, cel b7 ((xorPad (hmKey k) 92).map B) 215, cel b6 ((xorPad (hmKey k) 54).map B) 215] [] kR ?_; exact s_x 0 rfl (y_cutA (m := 64) (sz := 1) rfl kR) <| s_x 1 rfl (y_cutA (m := 32) (sz := 1) rfl kR) <| tx_a 2 rfl kR rfl <| a_slitN (vs := [.slice (some ⟨b7, 0, none⟩) 64 64, .slice (some ⟨b9, 0, none⟩) 32 32]) rfl (List.forall_mem_cons.2 ⟨rfl, (List.forall_mem_cons.2 ⟨rfl, (fun _ h => nomatch h)⟩)⟩) (EL208) rfl rfl dC fun b44 => tk_S (fun _ h => kS [1, 0, 0, 0] rfl h) <| tx_more [cel b44 ([Value.slice (some ⟨b7, 0, none⟩) 64 64, .slice (some ⟨b9, 0, none⟩) 32 32]) 64, cel b9 ((sumL (xorPad (hmKey k) 54 ++ L)).map B) 28, own v40 (1 + (ps.map Prod.fst).length) ([.slice (some ⟨b6, 0, none⟩) 64 64] ++ ps.map Prod.fst) 64 1, cel b7 ((xorPad (hmKey k) 92).map B) 215, cel b6 ((xorPad (hmKey k) 54).map B) 215] (fun _ h => kD 1 rfl h) (fun _ h => kS [0, 0, 0, 0, 0] rfl h) <| tx_a 3 rfl kR rfl <| a_callv [] _ rfl kR rfl (fun w' hw' => of_spec (ps := [(.slice (some ⟨b7, 0, none⟩) 64 64, xorPad (hmKey k) 92), (.slice (some ⟨b9, 0, none⟩) 32 32, sumL (xorPad (hmKey k) 54 ++ L))]) (L := (xorPad (hmKey k) 92) ++ (sumL (xorPad (hmKey k) 54 ++ L))) (Ro.cel (vs := [.slice (some ⟨b7, 0, none⟩) 64 64, .slice (some ⟨b9, 0, none⟩) 32 32]) hw' (.head _) rS rfl dC) (List.forall_mem_cons.2 ⟨(Ro.cel (H0 := []) (b := b7) (o := 0) (m := 64) (cp := 64) (vs := (xorPad (hmKey k) 92).map B) hw' (mm 3 rfl) (dsW) lQ lenP), (List.forall_mem_cons.2 ⟨(Ro.cel (H0 := []) (b := b9) (o := 0) (m := 32) (cp := 32) (vs := (sumL (xorPad (hmKey k) 54 ++ L)).map B) hw' (mm 1 rfl) (dsW) lQ lenP), (fun _ h => nomatch h)⟩)⟩) sI lenP lenP (hg.call hw')) rfl fun _ _ => tk_S (fun _ h => kS [0, 0, 0, 0, 0] rfl h) <| tk_re 45 (.agg ((sumL ((xorPad (hmKey k) 92) ++ (sumL (xorPad (hmKey k) 54 ++ L)))).map B).toArray) (.agg ((keyedL k L).map B).toArray) rfl (by simp only [keyedL]) <| tx_a 4 rfl kR rfl <| a_storeW (H1 := [_, _, _, _, _]) (vs := (keyedL k L).map B) 32 rfl rfl kR rfl ⟨lenP, lenP⟩ oneB <| tk_S (fun _ h => kS [0, 0, 0, 0, 0] rfl h) <| tx_done kR <| tk_then <| tk_retc <| tk_ret (()) (trivial) (.inl rfl) (rc (vs := (keyedL k L).map B) rfl rfl (by simp; kernel_rfl) (hcw (mm 5 rfl))) (List.nil_sublist _)
theorem same_spec {u v : Value} {l : List UInt8} {ps : List Sb} {w : World} (hu : Ro (Fs []) w (rdB u l)) (hv : Ro (Fs []) w (rd v (ps.map Prod.fst))) (hp : ∀ p ∈ ps, Ro (Fs []) w (rdB p.1 p.2)) (hb : l.length < 4611686018427387904 ∧ ps.length < 4611686018427387904) :
    Spec Tryz.prog 128 [u, v] w [] (fun _ : Unit => True) (fun _ => .bool (decide (∀ p ∈ ps, p.2 = l))) (fun _ => []) := by
  refine spec_of (n := 49) Tryz.func128 rfl rfl trivial trivial rfl <| s_r <| q_a rfl rfl <| s_n <| tk_seq <| s_r <| q_m rfl rfl <| s_q rfl (y_lenRN (n' := ps.length) rfl hv.1 rfl (by first | rfl | (rw [List.length_map]; omega) | simp)) <| q_m rfl rfl <| s_n <| tk_block <| tk_loop (X := Nat) (fun j => j ≤ ps.length ∧ ∀ p ∈ ps.take j, p.2.length = l.length) (fun j => [(0, u), (1, v), (12, v), (13, IN ps.length), (14, IN j)]) (fun j => []) (fun j => ps.length - j) (0) (⟨Nat.zero_le _, fun p hp => by simp at hp⟩) sB ((List.Sublist.refl _)) ?_
  rintro j hI
  try dsimp only at hI ⊢
  refine s_r <| s_q rfl (y_lss rfl rfl) <| s_n <| tk_seq <| tk_condP rfl (fun ht15 => ?_) (fun ht15 => ?_)
  · refine tk_skip <| tk_then <| tk_seq <| tk_block <| s_r <| s_q rfl (y_ixR (j := j) rfl rfl hv.1 lenP kR) <| s_q rfl (y_load rfl rfl (fun w hw => ((fun w hw => Ro.rd hv hw) w hw).cell (gM (f := Prod.fst) (d := dP) lenP))) <| q_a rfl rfl <| s_n <| s_r <| q_m rfl rfl <| s_q rfl (y_lenRN (n' := ((ps.getD j dP).2).length) rfl (hp _ (getD_mem lenP)).1 rfl (by first | rfl | (rw [List.length_map]; omega) | simp)) <| q_m rfl rfl <| s_q rfl (y_lenRN (n' := l.length) rfl hu.1 rfl (by first | rfl | (rw [List.length_map]; omega) | simp)) <| s_q rfl (y_neq rfl rfl) <| s_n <| tk_condP rfl (fun ht22 => ?_) (fun ht22 => ?_)
    · exact s_r <| q_a rfl rfl <| s_n <| tk_retc <| tk_in_ret <| tk_then_ret <| tk_then_ret <| tk_in_ret <| tk_then_ret <| tk_re 4 (.bool false) (.bool (decide (∀ p ∈ ps, p.2 = l))) rfl (congrArg Value.bool (Eq.symm (decide_eq_false fun h => ht22 (by rw [h _ (getD_mem oM)])))) <| tk_ret (()) (trivial) (.inl rfl) (r1 rfl rfl) (List.Sublist.refl _)
    · exact tk_skip <| tk_in_normal <| tk_then <| tk_region <| s_q rfl (y_addN (a := j) (b := 1) rfl rfl oM) <| q_m rfl rfl <| tk_nil <| tk_again (j + 1) (⟨by omega, fun p hp0 => by rw [take_snocG (d := dP) oM, List.mem_append, List.mem_singleton] at hp0; rcases hp0 with h | rfl; exact hI.2 p h; omega⟩) (by first | omega | (dsimp only; omega)) sB (List.Sublist.refl _)
  · have hA : ∀ p ∈ ps, p.2.length = l.length := by have h := hI.2; rw [show j = ps.length by omega, List.take_length] at h; exact h
    refine tk_exit <| tk_then_exit <| tk_then_exit <| tk_in_hit <| tk_then <| s_r <| q_a rfl rfl <| s_n <| tk_seq <| s_r <| q_m rfl rfl <| s_q rfl (y_lenRN (n' := ps.length) rfl hv.1 rfl (by first | rfl | (rw [List.length_map]; omega) | simp)) <| q_m rfl rfl <| s_n <| tk_block <| tk_loop (X := Nat × UInt8) (fun (j, e) => j ≤ ps.length ∧ (e = 0 ↔ ∀ p ∈ ps.take j, p.2 = l)) (fun (j, e) => [(0, u), (7, B e), (24, v), (25, IN ps.length), (26, IN j)]) (fun (j, e) => []) (fun (j, e) => ps.length - j) ((0, 0)) (⟨Nat.zero_le _, by simp⟩) sB ((List.Sublist.refl _)) ?_
    rintro ⟨j, e⟩ hI
    try dsimp only at hI ⊢
    have hlen : ∀ i, i < ps.length → (ps.getD i dP).2.length = l.length := fun i hi => hA _ (getD_mem hi)
    refine s_r <| s_q rfl (y_lss rfl rfl) <| s_n <| tk_seq <| tk_condP rfl (fun ht27 => ?_) (fun ht27 => ?_)
    · refine tk_skip <| tk_then <| tk_seq <| tk_block <| s_r <| s_q rfl (y_ixR (j := j) rfl rfl hv.1 lenP kR) <| s_q rfl (y_load rfl rfl (fun w hw => ((fun w hw => Ro.rd hv hw) w hw).cell (gM (f := Prod.fst) (d := dP) lenP))) <| q_a rfl rfl <| s_n <| s_r <| q_m rfl rfl ?_
      have hlj := hlen j oM
      refine s_q rfl (y_lenRN (n' := ((ps.getD j dP).2).length) rfl (hp _ (getD_mem lenP)).1 rfl (by first | rfl | (rw [List.length_map]; omega) | simp)) <| q_m rfl rfl <| s_n <| tk_block <| tk_loop (X := Nat × UInt8) (fun (i, e2) => i ≤ l.length ∧ (e2 = 0 ↔ e = 0 ∧ (ps.getD j dP).2.take i = l.take i)) (fun (i, e2) => [(0, u), (7, B e2), (24, v), (25, IN ps.length), (26, IN j), (30, (ps.getD j dP).1), (31, I ((((ps.getD j dP).2).length : Nat) : Int)), (32, IN i)]) (fun (i, e2) => []) (fun (i, e2) => l.length - i) ((0, e)) (⟨Nat.zero_le _, by simp⟩) sB ((List.Sublist.refl _)) ?_
      rintro ⟨i, e2⟩ hI2
      try dsimp only at hI2 ⊢
      refine s_r <| s_q rfl (y_lss rfl rfl) <| s_n <| tk_seq <| tk_condP rfl (fun ht33 => ?_) (fun ht33 => ?_)
      · refine tk_skip <| tk_then <| tk_seq <| tk_block <| s_r <| q_m rfl rfl <| s_q rfl (y_ixR (j := i) rfl rfl (hp _ (getD_mem lenP)).1 lenP kR) <| s_q rfl (y_load rfl rfl (fun w hw => ((fun w hw => Ro.rd (hp _ (getD_mem lenP)) hw) w hw).cell (gM (d := 0) lenP))) <| q_a rfl rfl <| q_a rfl rfl <| s_n <| tk_region <| q_m rfl rfl <| q_m rfl rfl <| q_m rfl rfl <| q_m rfl rfl <| s_q rfl (y_ixR (j := i) rfl rfl hu.1 lenP kR) <| s_q rfl (y_load rfl rfl (fun w hw => ((fun w hw => Ro.rd hu hw) w hw).cell (gM (d := 0) lenP))) <| s_q rfl (y_xor8 (a := ((ps.getD j dP).2).getD i 0) (b := l.getD i 0) rfl rfl) <| s_q rfl (y_or8 (a := e2) (b := (((ps.getD j dP).2).getD i 0) ^^^ (l.getD i 0)) rfl rfl) <| q_a rfl rfl <| tk_nil <| tk_in_normal <| tk_then ?_; exact tk_region <| s_q rfl (y_addN (a := i) (b := 1) rfl rfl oM) <| q_m rfl rfl <| tk_nil <| tk_again ((i + 1, e2 ||| ((((ps.getD j dP).2).getD i 0) ^^^ (l.getD i 0)))) (⟨by omega, by rw [or_xor_0, take_eq_snoc oM oM, hI2.2, and_assoc]⟩) (by first | omega | (dsimp only; omega)) sB (List.Sublist.refl _)
      · exact tk_exit <| tk_then_exit <| tk_then_exit <| tk_in_hit <| tk_in_normal <| tk_then <| tk_region <| s_q rfl (y_addN (a := j) (b := 1) rfl rfl oM) <| q_m rfl rfl <| tk_nil <| tk_again ((j + 1, e2)) (⟨by omega, by rw [hI2.2, take_snocG (d := dP) oM, show i = l.length by omega, List.take_length, List.take_of_length_le oM, List.forall_mem_append, List.forall_mem_singleton, hI.2]⟩) (by first | omega | (dsimp only; omega)) sB (List.Sublist.refl _)
    · exact tk_exit <| tk_then_exit <| tk_then_exit <| tk_in_hit <| tk_then <| s_r <| q_m rfl rfl <| s_q rfl (y_eql rfl rfl) <| tk_re 48 (.bool (decide ((e.toNat : Int) = ((0 : UInt8).toNat : Int)))) (.bool (decide (∀ p ∈ ps, p.2 = l))) rfl (congrArg Value.bool (decide_eq_decide.2 (same_end hI.2 oM))) <| q_a rfl rfl <| s_n <| tk_retc <| tk_ret (()) (trivial) (.inl rfl) (r1 rfl rfl) (List.Sublist.refl _)
theorem same1_spec {u v u2 : Value} {l m : List UInt8} {w : World} (hu : Ro (Fs []) w (rdB u l)) (hv : Ro (Fs []) w (rd v ([(u2, m)].map Prod.fst))) (hp : ∀ p ∈ [(u2, m)], Ro (Fs []) w (rdB p.1 p.2)) (hb : l.length < 4611686018427387904 ∧ 1 < 4611686018427387904) :
    Spec Tryz.prog 128 [u, v] w [] (fun _ : Unit => True) (fun _ => .bool (decide (m = l))) (fun _ => []) := by
  have h := same_spec hu hv hp (by simpa using hb)
  have e : (decide (∀ p ∈ [(u2, m)], p.2 = l)) = decide (m = l) := decide_eq_decide.2 sI
  rw [e] at h; exact h
end Go.Proofs.YtnhpghhibcdklaaGreatDoor
set_option linter.unusedSimpArgs false
set_option linter.unusedVariables false
namespace Go.Proofs.YtnhpghhibcdklaaGreatDoor
open Go Go.RowKit
set_option maxRecDepth 100000
attribute [local irreducible] sched schedZ rounds rr addI blockF word
end Go.Proofs.YtnhpghhibcdklaaGreatDoor
set_option linter.unusedSimpArgs false
set_option linter.unusedVariables false
namespace Go.Proofs.YtnhpghhibcdklaaGreatDoor
open Go Go.RowKit
set_option maxRecDepth 100000
attribute [local irreducible] sumL outB keyedL hmKey xorPad takeZ blockF len8 zc pad
end Go.Proofs.YtnhpghhibcdklaaGreatDoor
set_option linter.unusedSimpArgs false
set_option linter.unusedVariables false
namespace Go.Proofs.YtnhpghhibcdklaaGreatDoor
open Go Go.ChangeShapes Go.WideShapes Go.ChangeAt Go.RowKit
set_option maxRecDepth 100000
theorem Tryz.own : ownKnob Tryz.prog.godebug = none := by kernel_rfl
theorem Tryz.laidOut : laidOutB Tryz.prog = true := by kernel_rfl
/-- a laid row of words -/
theorem words_cell {W : World} {nm : String} {g t e n fuel : Nat} {cs : Array Value} {p : List MemPlace} {l : List UInt32} {d : DataW Unit} (hg : Tryz.prog.globalNamed nm = some g) (hv : W.var? Tryz.prog nm = some cs)
    (hd : DataW.trod (fun _ => ()) Tryz.prog W 0 (fun _ => true) false fuel t cs.toList = some (d, p)) (ht : Tryz.prog.underlying t = some (.array n e)) (he : Tryz.prog.underlying e = some (.int .u32)) (c5 : Tryz.prog.cellsOf e = 1)
    (hl : d = .agg (l.map fun x => .lit (.int .u32 (x.toNat : Int)))) (hn : l.length = n) : ∀ (j : Nat) (v : Value), (l.map W4)[j]? = some v → W.cell? ⟨g, j, none⟩ = some v := by
  intro j v hj
  have hjl : j < l.length := by have := (List.getElem?_eq_some_iff.1 hj).1; simpa using this
  subst hl
  obtain ⟨xs, m, _, ex, _, hx, hel⟩ := DataW.trod_array ht hd
  have hE := hel j (by omega)
  rw [c5, Nat.mul_one, List.getElem?_eq_getElem (by omega)] at hE
  obtain ⟨z, e1, e2, _⟩ := DataW.trod_int he hE
  have e3 : (xs.map (·.1)) = l.map fun x => .lit (.int .u32 (x.toNat : Int)) := (DataW.agg.inj (Prod.mk.inj ex).1).symm
  have e4 : (xs.map (·.1))[j]? = (l.map fun x => (DataW.lit (.int .u32 (x.toNat : Int)) : DataW Unit))[j]? := by rw [e3]
  rw [List.getElem?_map, List.getElem?_map, List.getElem?_eq_getElem (by omega : j < xs.length), List.getElem?_eq_getElem hjl, e2] at e4
  have hz : z = ((l[j]).toNat : Int) := by
    simp only [Option.map_some, Option.some.injEq, DataW.lit.injEq, Lit.int.injEq, true_and] at e4
    exact e4
  have e5 : v = .int .u32 z := by
    rw [List.getElem?_map, List.getElem?_eq_getElem hjl] at hj
    simp only [Option.map_some, Option.some.injEq] at hj
    rw [← hj, hz]
  rw [World.var?_cell hg hv j, e5]
  have h0 : ((cs.toList.drop j).take 1)[0]? = some (.int .u32 z) := by rw [e1]; rfl
  simpa using h0
/-- cells one behind the other -/
theorem cut_cat {cs : List Value} {o k n : Nat} (h : o + k = n) : (cs.drop o).take k ++ cs.drop n = cs.drop o := by
  subst h; have := List.take_append_drop k (cs.drop o); rwa [List.drop_drop] at this
theorem cut_end {cs : List Value} {o k : Nat} (h : cs.length = o + k) : cs.drop o = (cs.drop o).take k := (List.take_of_length_le (by simp; omega)).symm
end Go.Proofs.YtnhpghhibcdklaaGreatDoor
set_option linter.unusedSimpArgs false
set_option linter.unusedVariables false
namespace Go.Proofs.YtnhpghhibcdklaaGreatDoor.Cip
def twice8 (x : UInt8) : UInt8 := UInt8.ofNat (x.toNat * 2 ^ 1) ^^^ (-(UInt8.ofNat (x.toNat / 2 ^ 7)) &&& 27)
def fwd : List UInt8 := [
  0x63, 0x7c, 0x77, 0x7b, 0xf2, 0x6b, 0x6f, 0xc5, 0x30, 0x01, 0x67, 0x2b, 0xfe, 0xd7, 0xab, 0x76,
  0xca, 0x82, 0xc9, 0x7d, 0xfa, 0x59, 0x47, 0xf0, 0xad, 0xd4, 0xa2, 0xaf, 0x9c, 0xa4, 0x72, 0xc0,
  0xb7, 0xfd, 0x93, 0x26, 0x36, 0x3f, 0xf7, 0xcc, 0x34, 0xa5, 0xe5, 0xf1, 0x71, 0xd8, 0x31, 0x15,
  0x04, 0xc7, 0x23, 0xc3, 0x18, 0x96, 0x05, 0x9a, 0x07, 0x12, 0x80, 0xe2, 0xeb, 0x27, 0xb2, 0x75,
  0x09, 0x83, 0x2c, 0x1a, 0x1b, 0x6e, 0x5a, 0xa0, 0x52, 0x3b, 0xd6, 0xb3, 0x29, 0xe3, 0x2f, 0x84,
  0x53, 0xd1, 0x00, 0xed, 0x20, 0xfc, 0xb1, 0x5b, 0x6a, 0xcb, 0xbe, 0x39, 0x4a, 0x4c, 0x58, 0xcf,
  0xd0, 0xef, 0xaa, 0xfb, 0x43, 0x4d, 0x33, 0x85, 0x45, 0xf9, 0x02, 0x7f, 0x50, 0x3c, 0x9f, 0xa8,
  0x51, 0xa3, 0x40, 0x8f, 0x92, 0x9d, 0x38, 0xf5, 0xbc, 0xb6, 0xda, 0x21, 0x10, 0xff, 0xf3, 0xd2,
  0xcd, 0x0c, 0x13, 0xec, 0x5f, 0x97, 0x44, 0x17, 0xc4, 0xa7, 0x7e, 0x3d, 0x64, 0x5d, 0x19, 0x73,
  0x60, 0x81, 0x4f, 0xdc, 0x22, 0x2a, 0x90, 0x88, 0x46, 0xee, 0xb8, 0x14, 0xde, 0x5e, 0x0b, 0xdb,
  0xe0, 0x32, 0x3a, 0x0a, 0x49, 0x06, 0x24, 0x5c, 0xc2, 0xd3, 0xac, 0x62, 0x91, 0x95, 0xe4, 0x79,
  0xe7, 0xc8, 0x37, 0x6d, 0x8d, 0xd5, 0x4e, 0xa9, 0x6c, 0x56, 0xf4, 0xea, 0x65, 0x7a, 0xae, 0x08,
  0xba, 0x78, 0x25, 0x2e, 0x1c, 0xa6, 0xb4, 0xc6, 0xe8, 0xdd, 0x74, 0x1f, 0x4b, 0xbd, 0x8b, 0x8a,
  0x70, 0x3e, 0xb5, 0x66, 0x48, 0x03, 0xf6, 0x0e, 0x61, 0x35, 0x57, 0xb9, 0x86, 0xc1, 0x1d, 0x9e,
  0xe1, 0xf8, 0x98, 0x11, 0x69, 0xd9, 0x8e, 0x94, 0x9b, 0x1e, 0x87, 0xe9, 0xce, 0x55, 0x28, 0xdf,
  0x8c, 0xa1, 0x89, 0x0d, 0xbf, 0xe6, 0x42, 0x68, 0x41, 0x99, 0x2d, 0x0f, 0xb0, 0x54, 0xbb, 0x16]
theorem fwd_len : fwd.length = 256 := by kernel_rfl
def sbox (b : UInt8) : UInt8 := fwd.getD b.toNat 0
def addTo (K : List UInt8) (r : Nat) (V : List UInt8) : Nat → List UInt8
  | 0 => V
  | k + 1 => (addTo K r V k).set k ((addTo K r V k).getD k 0 ^^^ K.getD (16 * r + k) 0)
theorem addTo_succ {K : List UInt8} {r : Nat} {V : List UInt8} {k : Nat} : addTo K r V (k + 1) = (addTo K r V k).set k ((addTo K r V k).getD k 0 ^^^ K.getD (16 * r + k) 0) := rfl
@[simp] theorem addTo_len {K : List UInt8} {r : Nat} {V : List UInt8} {k : Nat} : (addTo K r V k).length = V.length := by
  induction k with
  | zero => rfl
  | succ k ih => rw [addTo_succ]; simp [ih]
def shTo (V : List UInt8) : Nat → List UInt8
  | 0 => List.replicate 16 0
  | k + 1 => (shTo V k).set k (sbox (V.getD ((k + k % 4 * 4) % 16) 0))
theorem shTo_succ {V : List UInt8} {k : Nat} : shTo V (k + 1) = (shTo V k).set k (sbox (V.getD ((k + k % 4 * 4) % 16) 0)) := rfl
@[simp] theorem shTo_len {V : List UInt8} {k : Nat} : (shTo V k).length = 16 := by
  induction k with
  | zero => rfl
  | succ k ih => rw [shTo_succ]; simp [ih]
def mix1 (V : List UInt8) (c : Nat) : List UInt8 :=
  let a := V.getD c 0; let b := V.getD (c + 1) 0; let d := V.getD (c + 2) 0; let e := V.getD (c + 3) 0
  let all := a ^^^ b ^^^ d ^^^ e
  let V1 := V.set c (V.getD c 0 ^^^ (all ^^^ twice8 (a ^^^ b)))
  let V2 := V1.set (c + 1) (V1.getD (c + 1) 0 ^^^ (all ^^^ twice8 (b ^^^ d)))
  let V3 := V2.set (c + 2) (V2.getD (c + 2) 0 ^^^ (all ^^^ twice8 (d ^^^ e)))
  V3.set (c + 3) (V3.getD (c + 3) 0 ^^^ (all ^^^ twice8 (e ^^^ a)))
def mixTo (V : List UInt8) : Nat → List UInt8
  | 0 => V
  | k + 1 => mix1 (mixTo V k) (4 * k)
@[simp] theorem mix1_len {V : List UInt8} {c : Nat} : (mix1 V c).length = V.length := by simp [mix1]
@[simp] theorem mixTo_len {V : List UInt8} {k : Nat} : (mixTo V k).length = V.length := by
  induction k with
  | zero => rfl
  | succ k ih => simp [mixTo, ih]
def turnTo (K V : List UInt8) : Nat → List UInt8
  | 0 => addTo K 0 V 16
  | r + 1 => addTo K (r + 1) (if r + 1 < 14 then mixTo (shTo (turnTo K V r) 16) 4 else shTo (turnTo K V r) 16) 16
@[simp] theorem turnTo_len {K V : List UInt8} {r : Nat} (h : V.length = 16) : (turnTo K V r).length = 16 := by
  cases r with
  | zero => simp [turnTo, h]
  | succ r => simp only [turnTo, addTo_len]; split <;> simp
/-- AES-256's turn of a block by the round keys -/
def turn (K V : List UInt8) : List UInt8 := turnTo K V 14
/-! ## the round keys -/
def initTo (b : List UInt8) (i : Nat) : List UInt8 := b.take (i * 4) ++ List.replicate (240 - i * 4) 0
@[simp] theorem initTo_len {b : List UInt8} {i : Nat} (hb : b.length = 32) (hi : i ≤ 8) : (initTo b i).length = 240 := by simp [initTo]; omega
theorem initTo_succ {b : List UInt8} {i : Nat} (hb : b.length = 32) (hi : i < 8) : initTo b (i + 1) = (initTo b i).take (i * 4) ++ (b.drop (i * 4)).take 4 ++ (initTo b i).drop (i * 4 + 4) := by
  have e1 : (b.take (i * 4)).length = i * 4 := by simp; omega
  have e2 : b.take ((i + 1) * 4) = b.take (i * 4) ++ (b.drop (i * 4)).take 4 := by
    rw [show (i + 1) * 4 = i * 4 + 4 by omega, List.take_add]
  have e3 : (initTo b i).take (i * 4) = b.take (i * 4) := by
    simp only [initTo]; rw [List.take_append_of_le_length (by omega), List.take_take, Nat.min_self]
  have e4 : (initTo b i).drop (i * 4 + 4) = List.replicate (240 - (i + 1) * 4) 0 := by
    simp only [initTo]; rw [List.drop_append, List.drop_eq_nil_of_le (by omega), e1, List.drop_replicate, List.nil_append]
    congr 1; omega
  rw [e3, e4]; simp only [initTo, e2]
def subTo (T : List UInt8) : Nat → List UInt8
  | 0 => T
  | j + 1 => (subTo T j).set j (sbox ((subTo T j).getD j 0))
@[simp] theorem subTo_len {T : List UInt8} {j : Nat} : (subTo T j).length = T.length := by
  induction j with
  | zero => rfl
  | succ j ih => simp [subTo, ih]
def word (W : List UInt8) (i : Nat) : List UInt8 := (W.drop (i * 4)).take 4
@[simp] theorem word_len {W : List UInt8} {i : Nat} (h : W.length = 240) (hi : i < 60) : (word W i).length = 4 := by simp [word, h]; omega
def tvA (t : List UInt8) (con : UInt8) : List UInt8 := [sbox (t.getD 1 0) ^^^ con, sbox (t.getD 2 0), sbox (t.getD 3 0), sbox (t.getD 0 0)]
/-- what is put to the word eight words ahead; n: the word's number less 8 -/
def tv (W : List UInt8) (n : Nat) (con : UInt8) : List UInt8 :=
  let t := word W (n + 7)
  if n % 8 = 0 then tvA t con else if n % 8 = 4 then subTo t 4 else t
def putTo (W : List UInt8) (n : Nat) (T : List UInt8) : Nat → List UInt8
  | 0 => W
  | j + 1 => (putTo W n T j).set ((n + 8) * 4 + j) ((putTo W n T j).getD (n * 4 + j) 0 ^^^ T.getD j 0)
@[simp] theorem putTo_len {W : List UInt8} {n : Nat} {T : List UInt8} {j : Nat} : (putTo W n T j).length = W.length := by
  induction j with
  | zero => rfl
  | succ j ih => simp [putTo, ih]
def conN (con : UInt8) (n : Nat) : UInt8 := if n % 8 = 0 then UInt8.ofNat (con.toNat * 2 ^ 1) else con
def expW (b : List UInt8) : Nat → List UInt8 × UInt8
  | 0 => (initTo b 8, 1)
  | n + 1 => (putTo (expW b n).1 n (tv (expW b n).1 n (expW b n).2) 4, conN (expW b n).2 n)
@[simp] theorem expW_len {b : List UInt8} {n : Nat} (hb : b.length = 32) : (expW b n).1.length = 240 := by
  induction n with
  | zero => exact initTo_len hb (by omega)
  | succ n ih => simp [expW, ih]
def keyW (b : List UInt8) : List UInt8 := (expW b 52).1
@[simp] theorem keyW_len {b : List UInt8} (hb : b.length = 32) : (keyW b).length = 240 := expW_len hb

/-! ## a flow's blocks -/
/-- the carry goes from the last byte to the first; k bytes are done -/
def plusTo (N : List UInt8) (n : Nat) : Nat → List UInt8 × Nat
  | 0 => (N, n)
  | k + 1 => let p := plusTo N n k
    if p.2 = 0 then p else (p.1.set (15 - k) (UInt8.ofNat (p.2 + (p.1.getD (15 - k) 0).toNat)), (p.2 + (p.1.getD (15 - k) 0).toNat) / 2 ^ 8)
@[simp] theorem plusTo_len {N : List UInt8} {n k : Nat} : (plusTo N n k).1.length = N.length := by
  induction k with
  | zero => rfl
  | succ k ih => simp only [plusTo]; split <;> simp [ih]
theorem plusTo_lt {N : List UInt8} {n k : Nat} (h : n < 2 ^ 63) : (plusTo N n k).2 < 2 ^ 63 := by
  induction k with
  | zero => exact h
  | succ k ih =>
    simp only [plusTo]; split
    · exact ih
    · have := ((plusTo N n k).1.getD (15 - k) 0).toNat_lt
      simp only; omega
theorem plusTo_done {N : List UInt8} {n k : Nat} (h : (plusTo N n k).2 = 0) (m : Nat) : plusTo N n (k + m) = plusTo N n k := by
  induction m with
  | zero => rfl
  | succ m ih => rw [← Nat.add_assoc]; simp only [plusTo]; rw [ih, if_pos h]
def plus (N : List UInt8) (n : Nat) : List UInt8 := (plusTo N n 16).1
@[simp] theorem plus_len {N : List UInt8} {n : Nat} : (plus N n).length = N.length := plusTo_len
theorem plus_at {N : List UInt8} {n k : Nat} (hk : k ≤ 16) (h : (plusTo N n k).2 = 0 ∨ k = 16) : plus N n = (plusTo N n k).1 := by
  rcases h with h | rfl
  · have := plusTo_done h (16 - k)
    rw [show k + (16 - k) = 16 by omega] at this
    rw [plus, this]
  · rfl
@[simp] theorem turn_len {K V : List UInt8} (h : V.length = 16) : (turn K V).length = 16 := turnTo_len h
/-- byte i of the flow of key words K and number N -/
def flowB (K N : List UInt8) (i : Nat) : UInt8 := (turn K (plus N (i / 16))).getD (i % 16) 0
/-- bytes from place at on -/
def hideL (K N : List UInt8) (at_ : Nat) (l : List UInt8) : List UInt8 := (List.range l.length).map fun i => l.getD i 0 ^^^ flowB K N (at_ + i)
@[simp] theorem hideL_len {K N : List UInt8} {at_ : Nat} {l : List UInt8} : (hideL K N at_ l).length = l.length := by simp [hideL]
@[simp] theorem hideL_nil {K N : List UInt8} {at_ : Nat} : hideL K N at_ [] = [] := rfl
theorem hideL_snoc {K N : List UInt8} {at_ : Nat} {l : List UInt8} {x : UInt8} : hideL K N at_ (l ++ [x]) = hideL K N at_ l ++ [x ^^^ flowB K N (at_ + l.length)] := by
  simp only [hideL, List.length_append, List.length_singleton, List.range_succ, List.map_append, List.map_cons, List.map_nil]
  congr 1
  · refine List.map_congr_left fun i hi => ?_
    have : i < l.length := List.mem_range.1 hi
    simp [List.getD_eq_getElem?_getD, List.getElem?_append_left this]
  · simp [List.getD_eq_getElem?_getD]
theorem flat_succ {α : Type} {Ps : List (α × List UInt8)} {i : Nat} {p : α × List UInt8} (h : Ps[i]? = some p) : (Ps.take (i + 1)).flatMap Prod.snd = (Ps.take i).flatMap Prod.snd ++ p.2 := by
  rw [List.take_add_one, h, List.flatMap_append]; simp
theorem flat_le {α : Type} {Ps : List (α × List UInt8)} {i : Nat} {p : α × List UInt8} (h : Ps[i]? = some p) : ((Ps.take i).flatMap Prod.snd).length + p.2.length ≤ (Ps.flatMap Prod.snd).length := by
  have e : Ps.flatMap Prod.snd = (Ps.take (i + 1)).flatMap Prod.snd ++ (Ps.drop (i + 1)).flatMap Prod.snd := by rw [← List.flatMap_append, List.take_append_drop]
  rw [e, flat_succ h]; simp
end Go.Proofs.YtnhpghhibcdklaaGreatDoor.Cip
set_option linter.unusedSimpArgs false
set_option linter.unusedVariables false
namespace Go.Proofs.YtnhpghhibcdklaaGreatDoor.Cip
end Go.Proofs.YtnhpghhibcdklaaGreatDoor.Cip
set_option linter.unusedSimpArgs false
set_option linter.unusedVariables false
namespace Go.Proofs.YtnhpghhibcdklaaGreatDoor.Cip
theorem xor_lt {a b : Nat} (k : Nat) (ha : a < 2 ^ k) (hb : b < 2 ^ k) : a ^^^ b < 2 ^ k := Nat.xor_lt_two_pow ha hb
end Go.Proofs.YtnhpghhibcdklaaGreatDoor.Cip
set_option linter.unusedSimpArgs false
set_option linter.unusedVariables false
namespace Go.Proofs.YtnhpghhibcdklaaGreatDoor.Cip
theorem getD_set_ne {l : List UInt8} {i j : Nat} {v : UInt8} (h : i ≠ j) : (l.set i v).getD j 0 = l.getD j 0 := by rw [List.getD_eq_getElem?_getD, List.getElem?_set_ne h, ← List.getD_eq_getElem?_getD]
theorem sbox_at (u : UInt8) : fwd[u.toNat]? = some (sbox u) := by
  have := u.toNat_lt
  rw [List.getElem?_eq_getElem (by rw [fwd_len]; omega), sbox, List.getD_eq_getElem?_getD, List.getElem?_eq_getElem (by rw [fwd_len]; omega)]; rfl
end Go.Proofs.YtnhpghhibcdklaaGreatDoor.Cip
set_option linter.unusedSimpArgs false
set_option linter.unusedVariables false
namespace Go.Proofs.YtnhpghhibcdklaaGreatDoor.Cip
/-- the reference's mixing: byte i -/
def mxb (U : List UInt8) (i : Nat) : UInt8 :=
  let c := i / 4 * 4; let r := i % 4
  twice8 (U.getD (c + r) 0) ^^^ (twice8 (U.getD (c + (r + 1) % 4) 0) ^^^ U.getD (c + (r + 1) % 4) 0) ^^^ U.getD (c + (r + 2) % 4) 0 ^^^ U.getD (c + (r + 3) % 4) 0
def mxTo (U : List UInt8) : Nat → List UInt8
  | 0 => U
  | k + 1 => (mxTo U k).set k (mxb U k)
@[simp] theorem mxTo_len {U : List UInt8} {k : Nat} : (mxTo U k).length = U.length := by
  induction k with
  | zero => rfl
  | succ k ih => simp [mxTo, ih]
def adTo (K : List UInt8) (r : Nat) (T S : List UInt8) : Nat → List UInt8
  | 0 => S
  | k + 1 => (adTo K r T S k).set k (T.getD k 0 ^^^ K.getD (16 * r + k) 0)
@[simp] theorem adTo_len {K T S : List UInt8} {r k : Nat} : (adTo K r T S k).length = S.length := by
  induction k with
  | zero => rfl
  | succ k ih => simp [adTo, ih]
theorem ext_getD {l m : List UInt8} (h : l.length = m.length) (hg : ∀ i, i < l.length → l.getD i 0 = m.getD i 0) : l = m := by
  apply List.ext_getElem h
  intro i h1 h2
  have := hg i h1
  rw [List.getD_eq_getElem?_getD, List.getD_eq_getElem?_getD, List.getElem?_eq_getElem h1, List.getElem?_eq_getElem h2] at this
  exact this
end Go.Proofs.YtnhpghhibcdklaaGreatDoor.Cip
set_option linter.unusedSimpArgs false
set_option linter.unusedVariables false
namespace Go.Proofs.YtnhpghhibcdklaaGreatDoor.Cip
theorem hideL_at {K N l : List UInt8} {a i : Nat} (h : i < l.length) : (hideL K N a l).getD i 0 = l.getD i 0 ^^^ flowB K N (a + i) := by
  unfold hideL
  rw [List.getD_eq_getElem?_getD, List.getElem?_map, List.getElem?_range h]; rfl
theorem hideL_twice {K N l : List UInt8} {a : Nat} : hideL K N a (hideL K N a l) = l := by
  apply ext_getD (by simp)
  intro i hi
  rw [hideL_len, hideL_len] at hi
  rw [hideL_at (by rw [hideL_len]; exact hi), hideL_at hi, UInt8.xor_assoc, UInt8.xor_self, UInt8.xor_zero]
end Go.Proofs.YtnhpghhibcdklaaGreatDoor.Cip
set_option linter.unusedSimpArgs false
set_option linter.unusedVariables false
namespace Go.Proofs.YtnhpghhibcdklaaGreatDoor
def hidL (hk N l : List UInt8) : List UInt8 := Cip.hideL (Cip.keyW hk) N 0 l
@[simp] theorem hidL_len {hk N l : List UInt8} : (hidL hk N l).length = l.length := by simp [hidL]
theorem hidL_def {hk N l : List UInt8} : Cip.hideL (Cip.keyW hk) N 0 l = hidL hk N l := rfl
def markL (mk : List UInt8) (kind : UInt8) (name N h : List UInt8) : List UInt8 := keyedL mk ([kind, UInt8.ofNat name.length] ++ name ++ N ++ h)
@[simp] theorem markL_len {mk name N h : List UInt8} {kind : UInt8} : (markL mk kind name N h).length = 32 := by simp [markL]
theorem markL_def {mk name N h : List UInt8} {kind : UInt8} : keyedL mk ([kind, UInt8.ofNat name.length] ++ name ++ N ++ h) = markL mk kind name N h := rfl
def sealL (hk mk : List UInt8) (kind : UInt8) (name N l : List UInt8) : List UInt8 := N ++ hidL hk N l ++ markL mk kind name N (hidL hk N l)
theorem sealL_def {hk mk : List UInt8} {kind : UInt8} {name N l : List UInt8} : N ++ hidL hk N l ++ markL mk kind name N (hidL hk N l) = sealL hk mk kind name N l := rfl
theorem sealL_len {hk mk name N l : List UInt8} {kind : UInt8} (hN : N.length = 16) : (sealL hk mk kind name N l).length = l.length + 48 := by simp [sealL, hN]; omega
def sealF (hk mk : List UInt8) (kind : UInt8) (name N l : List UInt8) : List UInt8 × Nat :=
  if 255 < name.length then ([], 5) else if 1048576 < l.length then ([], 4) else (sealL hk mk kind name N l, 0)
theorem sealF_name {hk mk name N l : List UInt8} {kind : UInt8} (h : 255 < name.length) : sealF hk mk kind name N l = ([], 5) := by rw [sealF, if_pos h]
theorem sealF_big {hk mk name N l : List UInt8} {kind : UInt8} (h : ¬ 255 < name.length) (h2 : 1048576 < l.length) : sealF hk mk kind name N l = ([], 4) := by rw [sealF, if_neg h, if_pos h2]
theorem sealF_ok {hk mk name N l : List UInt8} {kind : UInt8} (h : ¬ 255 < name.length) (h2 : ¬ 1048576 < l.length) : sealF hk mk kind name N l = (sealL hk mk kind name N l, 0) := by rw [sealF, if_neg h, if_neg h2]
def openF (hk mk : List UInt8) (kind : UInt8) (name b : List UInt8) : List UInt8 × Nat :=
  if 255 < name.length then ([], 5) else if b.length < 48 ∨ 1048624 < b.length then ([], 10)
  else if markL mk kind name (b.take 16) ((b.drop 16).take (b.length - 32 - 16)) = b.drop (b.length - 32) then (hidL hk (b.take 16) ((b.drop 16).take (b.length - 32 - 16)), 0) else ([], 10)
theorem openF_name {hk mk name b : List UInt8} {kind : UInt8} (h : 255 < name.length) : openF hk mk kind name b = ([], 5) := by rw [openF, if_pos h]
theorem openF_len {hk mk name b : List UInt8} {kind : UInt8} (h : ¬ 255 < name.length) (h2 : b.length < 48 ∨ 1048624 < b.length) : openF hk mk kind name b = ([], 10) := by rw [openF, if_neg h, if_pos h2]
theorem openF_no {hk mk name b : List UInt8} {kind : UInt8} (h : ¬ 255 < name.length) (h2 : ¬ (b.length < 48 ∨ 1048624 < b.length)) (h3 : ¬ markL mk kind name (b.take 16) ((b.drop 16).take (b.length - 32 - 16)) = b.drop (b.length - 32)) : openF hk mk kind name b = ([], 10) := by rw [openF, if_neg h, if_neg h2, if_neg h3]
theorem openF_ok {hk mk name b : List UInt8} {kind : UInt8} (h : ¬ 255 < name.length) (h2 : ¬ (b.length < 48 ∨ 1048624 < b.length)) (h3 : markL mk kind name (b.take 16) ((b.drop 16).take (b.length - 32 - 16)) = b.drop (b.length - 32)) :
    openF hk mk kind name b = (hidL hk (b.take 16) ((b.drop 16).take (b.length - 32 - 16)), 0) := by rw [openF, if_neg h, if_neg h2, if_pos h3]
theorem hid_twice {hk N l : List UInt8} : hidL hk N (hidL hk N l) = l := Cip.hideL_twice
theorem seal_cut {hk mk name N l : List UInt8} {kind : UInt8} (hN : N.length = 16) : (sealL hk mk kind name N l).take 16 = N ∧ ((sealL hk mk kind name N l).drop 16).take ((sealL hk mk kind name N l).length - 32 - 16) = hidL hk N l ∧
    (sealL hk mk kind name N l).drop ((sealL hk mk kind name N l).length - 32) = markL mk kind name N (hidL hk N l) := by
  have hl : (sealL hk mk kind name N l).length = l.length + 48 := sealL_len hN
  rw [hl]
  unfold sealL
  refine ⟨?_, ?_, ?_⟩
  · rw [List.append_assoc, List.take_left' hN]
  · rw [List.append_assoc, List.drop_left' hN, List.take_left' (by simp)]
  · rw [List.drop_left' (by simp [hN]; omega)]
theorem open_seal {hk mk name N l : List UInt8} {kind : UInt8} (hN : N.length = 16) (hn : ¬ 255 < name.length) (hl : ¬ 1048576 < l.length) : openF hk mk kind name (sealL hk mk kind name N l) = (l, 0) := by
  obtain ⟨h1, h2, h3⟩ := seal_cut (hk := hk) (mk := mk) (name := name) (N := N) (l := l) (kind := kind) hN
  rw [openF_ok hn (by rw [sealL_len hN]; omega) (by rw [h1, h2, h3]), h1, h2, hid_twice]
end Go.Proofs.YtnhpghhibcdklaaGreatDoor
set_option linter.unusedSimpArgs false
set_option linter.unusedVariables false
namespace Go.Proofs.YtnhpghhibcdklaaGreatDoor
open Go
/-- a, its first j bytes crossed with b's -/
def xz (a b : List UInt8) (j : Nat) : List UInt8 := (List.range 32).map fun i => if i < j then a.getD i 0 ^^^ b.getD i 0 else a.getD i 0
@[simp] theorem xz_len {a b : List UInt8} {j : Nat} : (xz a b j).length = 32 := by simp [xz]
/-- the stretched word -/
def strL (w s : List UInt8) : Nat → List UInt8
  | 0 => keyedL w s
  | n + 1 => xz (strL w s n) (keyedL w (strL w s n)) 32
@[simp] theorem strL_len {w s : List UInt8} {n : Nat} : (strL w s n).length = 32 := by cases n <;> simp [strL]
/-- byte j of a number, the greatest first -/
def beB (n j : Nat) : UInt8 := UInt8.ofNat (n / 2 ^ (56 - 8 * j))
def bej (n j : Nat) : List UInt8 := (List.range j).map (beB n)
theorem bej_0 {n : Nat} : bej n 0 = [] := rfl
theorem bej_snoc {n j : Nat} : bej n j ++ [beB n j] = bej n (j + 1) := by simp [bej, List.range_succ]
@[simp] theorem bej_len {n j : Nat} : (bej n j).length = j := by simp [bej]
def be8 (n : Nat) : List UInt8 := bej n 8
theorem be8_def {n : Nat} : bej n 8 = be8 n := rfl
@[simp] theorem be8_len {n : Nat} : (be8 n).length = 8 := bej_len
/-- the first c blocks of a tape that begins with b -/
def tapeL (b : List UInt8) : Nat → List UInt8
  | 0 => []
  | c + 1 => tapeL b c ++ sumL (b ++ be8 c)
@[simp] theorem tapeL_len {b : List UInt8} : ∀ {c : Nat}, (tapeL b c).length = 32 * c
  | 0 => rfl
  | c + 1 => by rw [tapeL, List.length_append, tapeL_len, sumL_len]; omega
theorem tapeL_0 {b : List UInt8} : tapeL b 0 = [] := rfl
theorem tapeL_succ {b : List UInt8} {c : Nat} : tapeL b c ++ sumL (b ++ be8 c) = tapeL b (c + 1) := rfl
theorem tapeL_pre {b : List UInt8} {c : Nat} : ∀ d, tapeL b c <+: tapeL b (c + d)
  | 0 => List.prefix_refl _
  | d + 1 => (tapeL_pre d).trans ⟨_, tapeL_succ⟩
/-- n bytes of the tape, from its byte p on -/
def tapeN (b : List UInt8) (p n : Nat) : List UInt8 := ((tapeL b (p + n)).drop p).take n
theorem tapeN_eq {b : List UInt8} {c p n : Nat} (h : p + n ≤ 32 * c) : ((tapeL b c).drop p).take n = tapeN b p n := by
  have e : ∀ {x y : List UInt8}, x <+: y → p + n ≤ x.length → (x.drop p).take n = (y.drop p).take n := by
    rintro x y ⟨z, rfl⟩ hx
    rw [List.drop_append_of_le_length (by omega), List.take_append_of_le_length (by simp; omega)]
  unfold tapeN
  rcases Nat.le_total c (p + n) with h1 | h1
  · obtain ⟨d, hd⟩ := Nat.exists_eq_add_of_le h1
    rw [hd]; exact e (tapeL_pre d) (by simpa using h)
  · obtain ⟨d, hd⟩ := Nat.exists_eq_add_of_le h1
    have h2 := e (tapeL_pre (b := b) (c := p + n) d) (by simp; omega)
    rw [hd]; exact h2.symm
@[simp] theorem tapeN_len {b : List UInt8} {p n : Nat} : (tapeN b p n).length = n := by simp [tapeN]; omega
/-- what is left of the tape's blocks from p on grows by a block -/
theorem tape_more {b : List UInt8} {c p : Nat} (h : p ≤ 32 * c) : (tapeL b c).drop p ++ sumL (b ++ be8 c) = (tapeL b (c + 1)).drop p := by
  rw [← tapeL_succ, List.drop_append_of_le_length (by simpa using h)]
end Go.Proofs.YtnhpghhibcdklaaGreatDoor
set_option linter.unusedSimpArgs false
set_option linter.unusedVariables false
namespace Go.Proofs.YtnhpghhibcdklaaGreatDoor
open Go
def digL : List UInt8 := [48, 49, 50, 51, 52, 53, 54, 55, 56, 57, 97, 98, 99, 100, 101, 102]
def hexL (l : List UInt8) : List UInt8 := l.flatMap fun x => [digL.getD (x.toNat / 16) 0, digL.getD (x.toNat % 16) 0]
@[simp] theorem hexL_len {l : List UInt8} : (hexL l).length = 2 * l.length := by
  induction l with
  | nil => rfl
  | cons x l ih => simp only [hexL, List.flatMap_cons, List.length_append, List.length_cons, List.length_nil] at ih ⊢; omega
theorem hexL_0 {l : List UInt8} : hexL (l.take 0) = [] := rfl
theorem hexL_take {l : List UInt8} {i : Nat} (h : i < l.length) : hexL (l.take i) ++ [digL.getD ((l.getD i 0).toNat / 16) 0, digL.getD ((l.getD i 0).toNat % 16) 0] = hexL (l.take (i + 1)) := by
  have e : l.getD i 0 = l[i] := by rw [List.getD_eq_getElem?_getD, List.getElem?_eq_getElem h]; rfl
  rw [e, List.take_add_one, List.getElem?_eq_getElem h]
  simp only [hexL, List.flatMap_append, Option.toList, List.flatMap_cons, List.flatMap_nil, List.append_nil]
def numL (n : Nat) : List UInt8 := if n < 128 then [UInt8.ofNat n] else UInt8.ofNat (n % 128 + 128) :: numL (n / 128)
termination_by n
theorem numL_lt {n : Nat} (h : n < 128) : numL n = [UInt8.ofNat n] := by rw [numL, if_pos h]
theorem numL_ge {n : Nat} (h : ¬ n < 128) : numL n = UInt8.ofNat (n % 128 + 128) :: numL (n / 128) := by rw [numL, if_neg h]
theorem numL_len : ∀ (k : Nat) {n : Nat}, n < 128 ^ (k + 1) → (numL n).length ≤ k + 1
  | 0, n, h => by rw [numL_lt (by simpa using h)]; simp
  | k + 1, n, h => by
    by_cases h1 : n < 128
    · rw [numL_lt h1]; simp
    · rw [numL_ge h1, List.length_cons]
      have : n / 128 < 128 ^ (k + 1) := by rw [Nat.div_lt_iff_lt_mul (by decide)]; rw [Nat.pow_succ] at h; exact h
      have := numL_len k this; omega
/-- what is written, what is left -/
theorem numL_step {a : List UInt8} {n : Nat} (h : ¬ n < 128) : (a ++ [UInt8.ofNat n ||| 128]) ++ numL (n / 128) = a ++ numL n := by
  have e : UInt8.ofNat n ||| 128 = UInt8.ofNat (n % 128 + 128) := by
    apply UInt8.toNat_inj.1
    rw [UInt8.toNat_or, UInt8.toNat_ofNat', UInt8.toNat_ofNat']
    rw [show n % 2 ^ 8 = n % 256 by rfl, show (n % 128 + 128) % 2 ^ 8 = n % 128 + 128 by omega]
    have h2 : n % 128 = n % 256 % 128 := by omega
    rw [h2]
    have h3 : n % 256 < 256 := by omega
    generalize n % 256 = m at h3
    have : ∀ m, m < 256 → m ||| (128 : UInt8).toNat = m % 128 + 128 := by decide +kernel
    exact this m h3
  rw [numL_ge h, e]; simp
/-- a blob of a pack -/
structure Ent where
  id : List UInt8
  kind : Nat
  off : Nat
  len : Nat
  h : id.length = 32
deriving DecidableEq
theorem mapB_inj {l m : List UInt8} (h : l.map B = m.map B) : l = m := List.map_inj_right (fun a b hab => by
  have h3 : (a.toNat : Int) = b.toNat := by simpa [B] using hab
  exact UInt8.toNat.inj (by omega)) |>.1 h
structure WSt where
  b : List UInt8
  l : List Ent
  p : Nat
def idF (nk : List UInt8) (kind : UInt8) (b : List UInt8) : List UInt8 := keyedL nk (kind :: b)
@[simp] theorem idF_len {nk b : List UInt8} {kind : UInt8} : (idF nk kind b).length = 32 := by simp [idF]
def nameL (b : List UInt8) : List UInt8 := [112, 47] ++ (hexL (sumL b)).take 40
@[simp] theorem nameL_len {b : List UInt8} : (nameL b).length = 42 := by simp [nameL]
/-- a writer's state is in order -/
structure WOk (s : WSt) : Prop where
  n : s.l.length ≤ 1000
  b : s.b.length ≤ 900000
  each : ∀ e ∈ s.l, 1 ≤ e.kind ∧ e.kind ≤ 2 ∧ e.off < 1048576 ∧ 48 ≤ e.len ∧ e.len < 1048576
structure Ring3 where
  h : List UInt8
  m : List UInt8
  n : List UInt8
structure ROk (r : Ring3) : Prop where
  h : r.h.length = 32
  m : r.m.length = 32
  n : r.n.length = 32
section
variable {r : Ring3} {bg : List UInt8} {s : WSt} {kind : Int} {b : List UInt8}
end
end Go.Proofs.YtnhpghhibcdklaaGreatDoor
set_option linter.unusedSimpArgs false
set_option linter.unusedVariables false
/- Owned slices of wider elements: read by index, appended to, made of a literal. Own work for this project; no program in sight. -/
namespace Go.Proofs.YtnhpghhibcdklaaGreatDoor
open Go Go.RowKit
abbrev ownA {α : Type} (f : α → List Value) (k : Nat) (v : Value) (l : List α) (T : TypeId) : Res := own v l.length (l.flatMap f) T k
theorem ownA_cast {α : Type} {f : α → List Value} {k : Nat} {v : Value} {l m : List α} {T : TypeId} (h : l = m) : ownA f k v l T = ownA f k v m T := by rw [h]
/-- the cells of a slice of n elements can be read -/
def RdC (w : World) (v : Value) (n : Nat) (xs : List Value) : Prop := (v = .slice none 0 0 ∧ n = 0 ∧ xs = []) ∨ ∃ ad cap, v = .slice (some ad) n cap ∧ n ≤ cap ∧ ∀ j u, xs[j]? = some u → w.cell? (ad.add j) = some u
theorem own_rdC {w : World} {v : Value} {n k : Nat} {xs : List Value} {T : TypeId} (h : (own v n xs T k).holds w) : RdC w v n xs := by
  rcases own_cells h with ⟨rfl, rfl, rfl⟩ | ⟨g, o, cap, rfl, hc, _, hr⟩
  · exact .inl ⟨rfl, rfl, rfl⟩
  · exact .inr ⟨⟨g, o, none⟩, cap, rfl, hc, fun j u hj => by rw [add_w]; exact hr j u hj⟩
theorem RdC.cell {w : World} {v : Value} {n : Nat} {xs : List Value} (h : RdC w v n xs) {j : Nat} {u : Value} (hj : xs[j]? = some u) : w.cell? ((adOf v).add j) = some u := by
  rcases h with ⟨rfl, _, rfl⟩ | ⟨ad, cap, rfl, _, hc⟩
  · cases hj
  · exact hc j u hj
theorem RdC.one {w : World} {v : Value} {n : Nat} {xs : List Value} (h : RdC w v n xs) : v.oneCell' = true := by
  rcases h with ⟨rfl, _⟩ | ⟨ad, cap, rfl, _⟩ <;> rfl
theorem RdC.cells {w : World} {v : Value} {n : Nat} {xs : List Value} (h : RdC w v n xs) : v.cells = #[v] := by
  rcases h with ⟨rfl, _⟩ | ⟨ad, cap, rfl, _⟩ <;> rfl
theorem RdC.form {w : World} {v : Value} {n : Nat} {xs : List Value} (h : RdC w v n xs) : ∃ ad, v = .slice ad n (cpOf v) ∧ (0 < n → ad = some (adOf v)) := by
  rcases h with ⟨rfl, rfl, _⟩ | ⟨ad, cap, rfl, _⟩
  · exact ⟨none, rfl, fun h => absurd h (by omega)⟩
  · exact ⟨some ad, rfl, fun _ => rfl⟩
/-- the cells of a slice, as a piece -/
def rdC (v : Value) (n : Nat) (xs : List Value) : Res where
  fp k := xs ≠ [] ∧ (adOf v).block = k
  holds w := RdC w v n xs
  loc w w' h hr := by
    rcases hr with hr | ⟨ad, cp, rfl, hc, hr⟩
    · exact .inl hr
    · refine .inr ⟨ad, cp, rfl, hc, fun j u hj => ?_⟩
      have hb : (ad.add j).block = ad.block := by cases j <;> simp [Addr.add]
      have hne : xs ≠ [] := fun e => by subst e; cases hj
      have := h ad.block ⟨hne, rfl⟩
      have h2 := hr j u hj
      simp only [World.cell?, hb] at h2 ⊢
      rw [this]; exact h2
  bnd w hr k hk := by
    obtain ⟨hne, rfl⟩ := hk
    cases xs with
    | nil => exact (hne rfl).elim
    | cons u us =>
      have h0 := hr.cell (j := 0) (u := u) rfl
      rw [show (adOf v).add 0 = adOf v by simp [Addr.add]] at h0
      exact World.block_lt_of_cell? w _ h0
theorem Ro.rdC {c : Cx} {v : Value} {n : Nat} {xs : List Value} {w : World} {H : List Res} (h : Ro c.E c.w0 (YtnhpghhibcdklaaGreatDoor.rdC v n xs)) (hw : St c w H) : RdC w v n xs := h.st hw
section
variable {α : Type} {f : α → List Value} {k : Nat} {d0 : α}
theorem flat_get (hf : ∀ a, (f a).length = k) : ∀ {l : List α} {i j : Nat}, i < l.length → j < k → (l.flatMap f)[i * k + j]? = (f (l.getD i d0))[j]?
  | [], _, _, h, _ => absurd h (by simp)
  | a :: l, 0, j, _, hj => by
    simp only [List.flatMap_cons, Nat.zero_mul, Nat.zero_add, List.getD_cons_zero]
    rw [List.getElem?_append_left (by rw [hf]; exact hj)]
  | a :: l, i + 1, j, h, hj => by
    simp only [List.flatMap_cons, List.getD_cons_succ]
    rw [List.getElem?_append_right (by rw [hf, Nat.add_mul]; omega), hf, show (i + 1) * k + j - k = i * k + j by rw [Nat.add_mul]; omega]
    exact flat_get hf (by simpa using h) hj
theorem flat_len (hf : ∀ a, (f a).length = k) {l : List α} : (l.flatMap f).length = l.length * k := by
  induction l with
  | nil => simp
  | cons a l ih => rw [List.flatMap_cons, List.length_append, hf, ih, List.length_cons, Nat.add_mul]; omega
/-- some cells of an element -/
theorem flat_part (hf : ∀ a, (f a).length = k) {l : List α} {i o : Nat} {vs : List Value} (hi : i < l.length) (hv : ((f (l.getD i d0)).drop o).take vs.length = vs) {w : World} {v : Value} {n : Nat} (h : RdC w v n (l.flatMap f)) :
    ∀ j u, vs[j]? = some u → w.cell? (((adOf v).add (i * k + o)).add j) = some u := fun j u hj => by
  have hj1 : j < vs.length := (List.getElem?_eq_some_iff.1 hj).1
  have hlen : vs.length ≤ (f (l.getD i d0)).length - o := by have := congrArg List.length hv; rw [List.length_take, List.length_drop] at this; omega
  rw [Deep.add_add]
  refine h.cell ?_
  rw [show i * k + o + j = i * k + (o + j) by omega, flat_get (d0 := d0) hf hi (by rw [hf] at hlen; omega)]
  rw [← hv, List.getElem?_take, if_pos hj1, List.getElem?_drop] at hj
  exact hj
theorem RdC.part {l : List α} {i o : Nat} {w : World} {v : Value} {n : Nat} (h : RdC w v n (l.flatMap f)) (hf : ∀ a, (f a).length = k) (hi : i < l.length) {bs : List UInt8} {m : Nat} (hv : ((f (l.getD i d0)).drop o).take m = bs.map B ∧ bs.length = m) :
    RdB w (.slice (some ((adOf v).add (i * k + o))) m m) bs :=
  .inr ⟨(adOf v).add (i * k + o), m, by simp [hv.2], by simp [hv.2], fun j u hj => flat_part (d0 := d0) hf hi (vs := bs.map B) (by rw [List.length_map, hv.2]; exact hv.1) h j u hj⟩
end
section
variable {P : Program} {n : Nat} {S : World → Prop} {L : Sl} {dst : Option Tmp} {rty : TypeId} {pos : String} {af : Array Edge} {gd : Option (Nat × Bool)}
  {t t' : TypeId} {x y z : Operand} {v u : Value} {α : Type} {f : α → List Value} {l : List α} {d0 : α}
theorem y_lenE {w0 : World} {m : Nat} {xs : List Value} {e : TypeId} (hx : ev L x = some v) (hv : RdC w0 v m xs) (ht : P.underlying t = some (.slice e)) :
    Y P n S L ⟨dst, .call { callee := .builtin .len, args := #[x], argTypes := #[t] }, rty, pos, af, gd⟩ (I (m : Int)) := by
  obtain ⟨ad, hf, _⟩ := hv.form
  rw [hf] at hx
  exact y_lenS hx ht
theorem y_ixE {w0 : World} {i k m : Nat} {kk : IntKind} {xs : List Value} (hx : ev L x = some v) (hy : ev L y = some (.int kk (i : Int))) (hv : RdC w0 v m xs) (hi : i < m) (ht : sliB P t k = true) :
    Y P n S L ⟨dst, .indexAddr t x y, rty, pos, af, gd⟩ (.pointer (some ((adOf v).add (i * k + 0)))) := by
  obtain ⟨ad, hf, h2⟩ := hv.form
  rw [h2 (by omega)] at hf
  rw [hf] at hx
  refine (y_ixS hx hy ht (by omega)).cast ?_
  rw [Int.toNat_natCast, Nat.add_zero]
theorem y_fldE {o off fi : Nat} (hx : ev L x = some (.pointer (some ((adOf v).add o)))) (ht : fldB P t fi off = true) :
    Y P n S L ⟨dst, .fieldAddr t x fi, rty, pos, af, gd⟩ (.pointer (some ((adOf v).add (o + off)))) := (y_fld hx ht).cast (by rw [Deep.add_add])
theorem y_loadE {i k o : Nat} (m : Nat) {vs : List Value} (hx : ev L x = some (.pointer (some ((adOf v).add (i * k + o))))) (ht : agB P t m = true) (hk : vs.length = m) (hf : ∀ a, (f a).length = k) (hi : i < l.length) (hv : ((f (l.getD i d0)).drop o).take m = vs)
    (hS : ∀ w, S w → RdC w v l.length (l.flatMap f)) : Y P n S L ⟨dst, .load t x, rty, pos, af, gd⟩ (.agg vs.toArray) :=
  y_loadA m hx ht hk (fun w hw => flat_part (d0 := d0) hf hi (by rw [hk]; exact hv) (hS w hw))
theorem y_loadE1 {i k o : Nat} (hx : ev L x = some (.pointer (some ((adOf v).add (i * k + o))))) (ht : scB P t = true) (hf : ∀ a, (f a).length = k) (hi : i < l.length) (hv : (f (l.getD i d0))[o]? = some u)
    (hS : ∀ w, S w → RdC w v l.length (l.flatMap f)) : Y P n S L ⟨dst, .load t x, rty, pos, af, gd⟩ u :=
  y_load hx ht (fun w hw => by
    refine (hS w hw).cell ?_
    rw [flat_get (d0 := d0) hf hi (by have := (List.getElem?_eq_some_iff.1 hv).1; rw [hf] at this; exact this)]
    exact hv)
end
section
variable {c : Cx} {L : Sl} {H : List Res} {P : Program} {Q : Exit → Act → World → Prop} {K : Act → World → Prop} {d : Nat} {rty : TypeId} {pos : String} {af : Array Edge} {gd : Option (Nat × Bool)} {t t' : TypeId} {x y : Operand} {v : Value} {α : Type} {f : α → List Value}
theorem tk_ownA {xs : List Value} {m k : Nat} {T : TypeId} (hm : own v m xs T k ∈ H) (h : (∃ w0, RdC w0 v m xs) → TK c K L H) : TK c K L H := tk_form (fun w hw => ⟨w, own_rdC (hw.mem hm)⟩) h
theorem tk_ownA0 (k : Nat) (T : TypeId) (h : TK c K L (ownA f k (.slice none 0 0) [] T :: H)) : TK c K L H := fun a w ha hw =>
  h a w ha (St.new (N := [own (.slice none 0 0) 0 [] T k]) hw (Fo.refl _ _) ⟨own_nil, trivial⟩ ⟨fun _ _ h => h, trivial⟩ (fun k hk => by
    rcases hk with hk | hk
    · cases hk
    · exact hk.elim))
/-- append of one element out of a row of its own -/
theorem a_appE {H1 H2 : List Res} {l : List α} {e : α} {T T' : TypeId} {k bytes b : Nat} (hx : ev L x = some v) (hy : ev L y = some (.slice (some ⟨b, 0, none⟩) 1 1)) (he : elB P t T k bytes) (hn : Nat.blt d c.n = true)
    (hH : H = H1 ++ ownA f k v l T :: H2) (hb : cel b (f e) T' ∈ H) (hk : (f e).length = k) (h1 : ∀ u ∈ f e, u.oneCell' = true) (hl : l.length + 1 ≤ 16777216) (hy1 : (l.length + 1) * bytes ≤ 140737488355328) (h : ∀ v', TK c K ((d, v') :: L) (H1 ++ ownA f k v' (l ++ [e]) T :: H2)) :
    TK c (fun a w => (⟨some d, .call { callee := .builtin .append, args := #[x, y], argTypes := #[t, t] }, rty, pos, af, gd⟩ : Oper).wp P a w K Q) L H :=
  a_append (n := l.length) (m := 1) (xs := l.flatMap f) (news := f e) hx hy he hn hH (by rw [hk, Nat.one_mul]) (fun w hw j u hj => by rw [add_w, Nat.zero_add]; exact cel_cell (hw.mem hb) hj) h1 ⟨by omega, hy1⟩
    (fun v' => by have := h v'; simp only [ownA, List.length_append, List.length_singleton, List.flatMap_append, List.flatMap_singleton] at this; exact this)
theorem run_slitE {w : World} {e : TypeId} {bytes k : Nat} {cs : List Value} (he : elB P t e k bytes) (hk : cs.length = k) (hs : k ≤ 16777216) :
    (Instr.buildSlice t 1 #[(0, .agg cs.toArray)]).run P w = .ok (.slice (some ⟨w.heap.size, 0, none⟩) 1 1) { w with heap := w.heap.push (.cells cs.toArray e) } := by
  obtain ⟨ht, i, z, hi, hz, hzs, rfl, _, h0⟩ := he
  have hv : (Value.agg cs.toArray).cells = cs.toArray := rfl
  have h2 : ¬ (2 ^ 24 < 1 * i.size) := by omega
  have h3 : ¬ (i.size = 0) := by omega
  have h4 := foldl_set 0 cs 0 ((Array.range (1 * i.size)).map (z.cells[· % z.cells.size]!)) (by simp [hk])
  have h5 : cs.toArray.zipIdx.foldl (fun cs (p : Value × Nat) => cs.setIfInBounds (0 * i.size + p.2) p.1) ((Array.range (1 * i.size)).map (z.cells[· % z.cells.size]!)) = cs.toArray := by
    rw [← Array.foldl_toList, Array.toList_zipIdx, Nat.zero_mul]
    refine h4.trans ?_
    rw [List.drop_of_length_le (by simp; omega)]; simp
  have h6 : Instr.fill (fun j => some (j * i.size, i.size)) ((Array.range (1 * i.size)).map (z.cells[· % z.cells.size]!)) [(0, .agg cs.toArray)] = some cs.toArray := by
    simp only [Instr.fill, hv]
    rw [if_neg (by simp; omega)]
    exact congrArg some h5
  simp only [Instr.buildSlice, Sem.run_bind, run_underlying ht, Result.andThen_ok, Go.sizeOf, typeInfo]
  simp [hi, zeroValue, typeInfo, hz, newRow, h3]
  rw [Nat.one_mul] at h6
  rw [if_neg (by omega), h6]; rfl
theorem a_slitE {o : Operand} {e : TypeId} {bytes k : Nat} {cs : List Value} (hx : ev L o = some (.agg cs.toArray)) (he : elB P t e k bytes) (hk : cs.length = k) (hs : k ≤ 16777216) (hn : Nat.blt d c.n = true)
    (h : ∀ b, TK c K ((d, .slice (some ⟨b, 0, none⟩) 1 1) :: L) (cel b cs e :: H)) :
    TK c (fun a w => (⟨some d, .buildSlice t 1 #[(0, o)], rty, pos, af, gd⟩ : Oper).wp P a w K Q) L H :=
  a_slit (xs := [(0, o)]) (vs := [(0, .agg cs.toArray)]) (by simp [evp, hx]) hn (fun _ => run_slitE he hk hs) h
/-- s[:m] of an owned slice is owned -/
theorem tk_ownTake {β : Type} {g : β → Value} {H1 H2 : List Res} {l : List β} (m : Nat) {T : TypeId} (hH : H = H1 ++ ownM g v l T :: H2) (hm : m ≤ l.length) (h : TK c K L (H1 ++ ownM g (cutR v 0 m) (l.take m) T :: H2)) : TK c K L H := fun a w ha hw => by
  subst hH
  have h0 := hw.mem (r := ownM g v l T) (by simp)
  have h1 : (ownM g (cutR v 0 m) (l.take m) T).holds w ∧ ∀ k, (cutR v 0 m).ownBlock = some k → v.ownBlock = some k := by
    obtain ⟨h1, h2⟩ := h0
    rcases h2 with ⟨rfl, h0⟩ | ⟨b, o, cap, cur, fr, T', rfl, hg, hf, hc, hcm, hcs, ht⟩
    · have : l = [] := List.eq_nil_of_length_eq_zero h0
      subst this
      obtain rfl : m = 0 := by simpa using hm
      refine ⟨⟨by simp, .inl ⟨by simp [cutR, cutAd], rfl⟩⟩, fun k hk => by simp [cutR, cutAd, Value.ownBlock] at hk⟩
    · have e : cutR (.slice (some ⟨b, o, none⟩) l.length cap) 0 m = .slice (some ⟨b, o, none⟩) m cap := by
        simp only [cutR, cutAd]
        split
        · simp [*]
        · simp [Addr.add]
      rw [e]
      refine ⟨⟨by simp, .inr ⟨b, o, cap, cur, fr, T', by rw [List.length_take, Nat.min_eq_left hm], hg, hf, by rw [List.length_take]; omega, hcm, hcs, ?_⟩⟩, fun k hk => by simpa [Value.ownBlock] using hk⟩
      rw [Nat.mul_one] at ht ⊢
      rw [List.length_take, Nat.min_eq_left hm, List.map_take, ← ht, List.take_take, Nat.min_eq_left hm]
  exact h a w ha (St.perm (St.turn (N := [ownM g (cutR v 0 m) (l.take m) T]) hw (Fo.refl _ _) ⟨h1.1, trivial⟩ ⟨fun _ _ h => h, trivial⟩ (fun k hk => by
    rcases hk with hk | hk
    · exact .inl (h1.2 k hk)
    · exact hk.elim)) perm_mid)
/-- append(nil, make([]byte, n)...) -/
theorem a_appZ {tn e : TypeId} {n : Nat} {kn : IntKind} (hx : ev L x = some (.slice none 0 0)) (hy : ev L y = some (I (n : Int))) (he : mkB P t e (B 0) 1) (htn : P.underlying tn = some (.int kn)) (h0 : 0 < n) (h48 : n ≤ 281474976710656) (hn : Nat.blt d c.n = true)
    (h : ∀ v, TK c K ((d, v) :: L) (ownB v (List.replicate n 0) e :: H)) :
    TK c (fun a w => (⟨some d, .call { callee := .builtin .append, args := #[x, y], argTypes := #[t, tn] }, rty, pos, af, gd⟩ : Oper).wp P a w K Q) L H := fun a w ha hw => by
  have h1 := ha.ev hx; have h2 := ha.ev hy
  obtain ⟨ht, i, hi, hz, hs, hb⟩ := he
  have hr := Lib.run_append_nil_zeros (P := P) w t tn rty e i (B 0) .i64 kn ht htn hi hz n h0 (by omega) (by omega) (by rw [hb]; omega)
  have e1 : (execOp a.eval (⟨some d, .call { callee := .builtin .append, args := #[x, y], argTypes := #[t, tn] }, rty, pos, af, gd⟩ : Oper)).run P w = .ok (.value (.slice (some ⟨w.heap.size, 0, none⟩) n (grownCap w n 0 e))) (w.drew.alloc (.cells (Builtin.zeroCells (B 0).cells n ++ Builtin.zeroCells (B 0).cells (grownCap w n 0 e - n)) e)) := by
    simp [execOp, resolve, h1, h2, invoke, builtin, hr]
  change Oper.upon P _ a K Q ((execOp a.eval _).run P w)
  rw [e1, Oper.upon_value]
  have hge := grownCap_ge w n 0 e
  have hcm := grownCap_le_maxLen w n 0 e (by simp only [maxLen]; omega)
  have hz0 : ∀ m, (Builtin.zeroCells (B 0).cells m).toList = (List.replicate m (0 : UInt8)).map B := fun m => by
    simp only [Builtin.zeroCells, Value.cells]
    apply List.ext_getElem
    · simp
    · intro i h1 h2
      simp
      rw [show i % 1 = 0 by omega]; rfl
  refine h _ _ _ (ha.put hn _) (St.new (w' := w.drew.alloc (.cells (Builtin.zeroCells (B 0).cells n ++ Builtin.zeroCells (B 0).cells (grownCap w n 0 e - n)) e)) (N := [ownB (.slice (some ⟨w.heap.size, 0, none⟩) n (grownCap w n 0 e)) (List.replicate n 0) e]) hw ⟨rfl, rfl, rfl, by simp, fun k hk _ => Below.heap_alloc w.drew _ k hk⟩
    ⟨⟨by simp, .inr ⟨w.heap.size, 0, _, _, (0, 0), e, by simp, heap_alloc_new w.drew _, .inr rfl, by simpa using hge, hcm, ?_, ?_⟩⟩, trivial⟩ ⟨fun _ _ h => h, trivial⟩ (fun k hk => ?_))
  · rw [← Array.length_toList, Array.toList_append, hz0, hz0]; simp; omega
  · rw [Array.toList_append, hz0, hz0, Nat.mul_one, List.drop_zero, List.take_left' (by simp)]
  · rcases hk with hk | hk
    · have : some w.heap.size = some k := hk
      cases this; exact Nat.le_refl _
    · exact hk.elim
end
/-! ### a struct's value built of its first parts -/
theorem fillP1 {zs a cs : List Value} {n : Nat} {pl : List (Nat × Nat)} (ha : a.length = n) (hz : n ≤ zs.length) (e : a ++ zs.drop n = cs) : fillL ((0, n) :: pl) zs [(0, a)] = some cs := by
  subst ha; subst e
  simp only [fillL, List.getElem?_cons_zero]
  rw [if_pos ⟨trivial, by omega⟩]; simp
theorem fillP2 {zs a b cs : List Value} {n m : Nat} {pl : List (Nat × Nat)} (ha : a.length = n) (hb : b.length = m) (hz : n + m ≤ zs.length) (e : a ++ b ++ zs.drop (n + m) = cs) : fillL ((0, n) :: (n, m) :: pl) zs [(0, a), (1, b)] = some cs := by
  subst ha; subst hb; subst e
  simp only [fillL, List.getElem?_cons_zero, List.getElem?_cons_succ]
  have h2 : zs.take 0 ++ a ++ zs.drop (0 + a.length) = a ++ zs.drop a.length := by simp
  rw [if_pos ⟨trivial, by omega⟩, h2, if_pos ⟨trivial, by simp; omega⟩, List.take_left, ← List.drop_drop]
  congr 2
  rw [← List.drop_drop, List.drop_left]
section
variable {L : Sl} {P : Program} {n : Nat} {S : World → Prop}
theorem rcc {fn : Func} {p b o p2 b2 o2 : Nat} {ty ty2 : TypeId} {vs vs2 : List Value} (h : fn.results = #[.cell p ty, .cell p2 ty2]) (hp : lk p L = some (.pointer (some ⟨b, o, none⟩))) (ht : agB P ty vs.length = true)
    (hc : ∀ w, S w → ∀ (j : Nat) (u : Value), vs[j]? = some u → w.cell? ((⟨b, o, none⟩ : Addr).add j) = some u)
    (hp2 : lk p2 L = some (.pointer (some ⟨b2, o2, none⟩))) (ht2 : agB P ty2 vs2.length = true)
    (hc2 : ∀ w, S w → ∀ (j : Nat) (u : Value), vs2[j]? = some u → w.cell? ((⟨b2, o2, none⟩ : Addr).add j) = some u) :
    ∀ a w, Agr n a L → S w → (results fn a.tmps).run P w = .ok (.tuple #[.agg vs.toArray, .agg vs2.toArray]) w := fun a w ha hs => by
  have e1 := cell_run ha hp ht (hc w hs)
  have e3 := cell_run ha hp2 ht2 (hc2 w hs)
  have e4 : (results fn a.tmps) = (do let v ← (do loadVar ty (← asAddr (a.tmps.getD p undef))); let v2 ← (do loadVar ty2 (← asAddr (a.tmps.getD p2 undef))); pure (.tuple #[v, v2])) := by
    unfold results; rw [h]; simp
  rw [e4, Sem.run_bind, e1]
  show (do let v2 ← (do loadVar ty2 (← asAddr (a.tmps.getD p2 undef))); pure (Value.tuple #[.agg vs.toArray, v2])).run P w = _
  rw [Sem.run_bind, e3]
  rfl
theorem r4 {fn : Func} {p q r s : Nat} {v u x y : Value} (h : fn.results = #[.tmp p, .tmp q, .tmp r, .tmp s]) (hv : lk p L = some v) (hu : lk q L = some u) (hx : lk r L = some x) (hy : lk s L = some y) :
    ∀ a w, Agr n a L → S w → (results fn a.tmps).run P w = .ok (.tuple #[v, u, x, y]) w := fun a w ha _ => by
  have e1 : a.tmps.getD p undef = v := by rw [Array.getD_eq_getD_getElem?, ha.at_ p v hv]; rfl
  have e2 : a.tmps.getD q undef = u := by rw [Array.getD_eq_getD_getElem?, ha.at_ q u hu]; rfl
  have e3 : a.tmps.getD r undef = x := by rw [Array.getD_eq_getD_getElem?, ha.at_ r x hx]; rfl
  have e4 : a.tmps.getD s undef = y := by rw [Array.getD_eq_getD_getElem?, ha.at_ s y hy]; rfl
  have e5 : (results fn a.tmps) = pure (.tuple #[a.tmps.getD p undef, a.tmps.getD q undef, a.tmps.getD r undef, a.tmps.getD s undef]) := by
    unfold results; rw [h]; simp
  rw [e5, e1, e2, e3, e4]; rfl
theorem r3 {fn : Func} {p q r : Nat} {v u x : Value} (h : fn.results = #[.tmp p, .tmp q, .tmp r]) (hv : lk p L = some v) (hu : lk q L = some u) (hx : lk r L = some x) :
    ∀ a w, Agr n a L → S w → (results fn a.tmps).run P w = .ok (.tuple #[v, u, x]) w := fun a w ha _ => by
  have e1 : a.tmps.getD p undef = v := by rw [Array.getD_eq_getD_getElem?, ha.at_ p v hv]; rfl
  have e2 : a.tmps.getD q undef = u := by rw [Array.getD_eq_getD_getElem?, ha.at_ q u hu]; rfl
  have e3 : a.tmps.getD r undef = x := by rw [Array.getD_eq_getD_getElem?, ha.at_ r x hx]; rfl
  have e5 : (results fn a.tmps) = pure (.tuple #[a.tmps.getD p undef, a.tmps.getD q undef, a.tmps.getD r undef]) := by
    unfold results; rw [h]; simp
  rw [e5, e1, e2, e3]; rfl
end
section
variable {P : Program} {n : Nat} {S : World → Prop} {L : Sl} {dst : Option Tmp} {rty : TypeId} {pos : String} {af : Array Edge} {gd : Option (Nat × Bool)}
  {t t' : TypeId} {x y z : Operand}
theorem y_capNil {e : TypeId} (hx : ev L x = some (.slice none 0 0)) (ht : P.underlying t = some (.slice e)) : Y P n S L ⟨dst, .call { callee := .builtin .cap, args := #[x], argTypes := #[t] }, rty, pos, af, gd⟩ (I ((0 : Nat) : Int)) := fun q w ha _ => by
  have h1 := ha.ev hx
  simp [execOp, resolve, h1, invoke, builtin, Builtin.cap_, underlying, ht, goInt]
end
end Go.Proofs.YtnhpghhibcdklaaGreatDoor

set_option linter.unusedSimpArgs false
set_option linter.unusedVariables false
/- Maps of one's own, keyed by arrays of bytes, all true. Own work for this project; no program in sight. -/
namespace Go.Proofs.YtnhpghhibcdklaaGreatDoor
open Go Go.RowKit
section
variable {P : Program} {w : World} {kt e : TypeId} {ki : IntKind} {n : Nat}
end
section
variable {P : Program} {n : Nat} {S : World → Prop} {L : Sl} {dst : Option Tmp} {rty : TypeId} {pos : String} {af : Array Edge} {gd : Option (Nat × Bool)}
  {t t' : TypeId} {x y z : Operand}
end
section
variable {c : Cx} {L : Sl} {H : List Res} {P : Program} {Q : Exit → Act → World → Prop} {K : Act → World → Prop} {d : Nat} {rty : TypeId} {pos : String} {af : Array Edge} {gd : Option (Nat × Bool)} {t t' : TypeId} {x y z : Operand}
end
section
variable {P : Program} {n : Nat} {S : World → Prop} {L : Sl} {dst : Option Tmp} {rty : TypeId} {pos : String} {af : Array Edge} {gd : Option (Nat × Bool)}
  {t t' : TypeId} {x y z : Operand}
theorem i64_or_nat (a b : Nat) (ha : a < 4611686018427387904) (hb : b < 4611686018427387904) : bits .or .i64 (a : Int) (b : Int) = ((a ||| b : Nat) : Int) := by
  have hx : a ||| b < 2 ^ 62 := Nat.or_lt_two_pow (by omega) (by omega)
  show IntKind.i64.wrap ((BitVec.ofInt 64 (a : Int) ||| BitVec.ofInt 64 (b : Int)).toNat : Int) = _
  rw [BitVec.toNat_or, ofInt_64 a (by omega), ofInt_64 b (by omega), wrap_in (by omega) (by omega)]
theorem y_orN {a b : Nat} (hx : ev L x = some (I (a : Int))) (hy : ev L y = some (I (b : Int))) (h : a < 4611686018427387904 ∧ b < 4611686018427387904) : Y P n S L ⟨dst, .binOp .or t x y t', rty, pos, af, gd⟩ (I ((a ||| b : Nat) : Int)) :=
  (y_bits hx hy (by simp)).cast (by rw [i64_or_nat _ _ h.1 h.2])
end
end Go.Proofs.YtnhpghhibcdklaaGreatDoor

/- Many pieces as one; strings in order. Own work for this project; no program in sight. -/
namespace Go.Proofs.YtnhpghhibcdklaaGreatDoor
open Go Go.RowKit
/-- many pieces as one -/
def bag (ps : List Res) : Res where
  fp := Fs ps
  holds w := Hs w ps
  loc _ _ h hr := Hs.loc h hr
  bnd _ hr k hk := Fs.bnd hr k hk
theorem bag_cast {ps qs : List Res} (h : ps = qs) : bag ps = bag qs := by rw [h]
theorem Ro.outB {c : Cx} {p q : Res} {ps : List Res} {w : World} {H0 Hr : List Res} (hw : St c w (H0 ++ Hr)) (hb : bag ps ∈ Hr) (hq : q ∈ ps) (h : q.holds w → p.holds w) (hf : ∀ k, p.fp k → q.fp k) : Ro (Fs H0) w p :=
  Ro.out hw hb (fun hb => h (Hs.mem hb q hq)) (fun k hk => Fs.of_mem hq (hf k hk))
section
variable {c : Cx} {L : Sl} {H : List Res} {K : Act → World → Prop} {r : Res} {ps : List Res}
theorem tk_bag0 (h : TK c K L (bag [] :: H)) : TK c K L H := fun a w ha hw => h a w ha ⟨hw.fr, ⟨trivial, hw.hs⟩, ⟨fun _ h => h.elim, hw.dj⟩, fun k hk => hw.own k (hk.resolve_left (fun h => h.elim))⟩
theorem tk_bag (h : TK c K L (bag (ps ++ [r]) :: H)) : TK c K L (r :: bag ps :: H) := fun a w ha hw => by
  have e : ∀ k, Fs (ps ++ [r]) k ↔ (Fs ps k ∨ r.fp k) := fun k => by rw [Fs_append]; simp [Fs]
  refine h a w ha ⟨hw.fr, ⟨?_, hw.hs.2.2⟩, ⟨fun k hk hf => ?_, hw.dj.2.2⟩, fun k hk => hw.own k ?_⟩
  · exact Hs_append.2 ⟨hw.hs.2.1, hw.hs.1, trivial⟩
  · rcases (e k).1 hk with h1 | h1
    · exact hw.dj.2.1 k h1 hf
    · exact hw.dj.1 k h1 (.inr hf)
  · rcases hk with hk | hk
    · rcases (e k).1 hk with h1 | h1
      · exact .inr (.inl h1)
      · exact .inl h1
    · exact .inr (.inr hk)
end
theorem cutR_0 {ad : Option Addr} {n cap m : Nat} : cutR (.slice ad n cap) 0 m = .slice ad m cap := by
  simp only [cutR, cutAd, Nat.sub_zero, Nat.zero_mul]
  split
  · rfl
  · cases ad <;> simp [Addr.add]
theorem RdC.take {w : World} {v : Value} {n m : Nat} {xs : List Value} (h : RdC w v n xs) (k : Nat) (hm : m ≤ n) : RdC w (cutR v 0 m) m (xs.take (m * k)) := by
  rcases h with ⟨rfl, rfl, rfl⟩ | ⟨ad, cap, rfl, hc, hr⟩
  · obtain rfl : m = 0 := by omega
    exact .inl ⟨cutR_0, rfl, by simp⟩
  · refine .inr ⟨ad, cap, cutR_0, by omega, fun j u hj => hr j u ?_⟩
    rw [List.getElem?_take] at hj
    split at hj
    · exact hj
    · cases hj
theorem flat_take {α : Type} {f : α → List Value} {k : Nat} (hf : ∀ a, (f a).length = k) : ∀ {l : List α} {m : Nat}, m ≤ l.length → (l.flatMap f).take (m * k) = (l.take m).flatMap f
  | [], m, h => by simp
  | a :: l, 0, h => by simp
  | a :: l, m + 1, h => by
    rw [List.take_succ_cons, List.flatMap_cons, List.flatMap_cons, Nat.add_mul, Nat.one_mul, Nat.add_comm (m * k) k]
    have e : (f a).length = k := hf a
    rw [← e, List.take_length_add_append, e, flat_take hf (by simpa using h)]
theorem fill_sv {a0 b0 x v : Value} (hx : x.cells = #[x]) (h : v.cells = #[v]) : fillL [(0, 1), (1, 1)] [a0, b0] [(0, x.cells.toList), (1, v.cells.toList)] = some [x, v] := by rw [h, hx]; rfl
theorem notdec (p : Prop) [Decidable p] : Value.bool (!decide p) = Value.bool (decide (¬ p)) := by simp
theorem oneBo {l : List Bool} : ∀ u ∈ l.map bo, u.oneCell' = true := by
  intro u hu
  obtain ⟨a, _, rfl⟩ := List.mem_map.1 hu
  rfl
def strLe (l m : List UInt8) : Bool := Op.bytesLess l m || decide (l = m)
section
variable {P : Program} {n : Nat} {S : World → Prop} {L : Sl} {dst : Option Tmp} {rty : TypeId} {pos : String} {af : Array Edge} {gd : Option (Nat × Bool)}
  {t t' : TypeId} {x y z : Operand}
theorem y_cutE {k' : IntKind} {ih : Int} {xh : Operand} {w0 : World} {v : Value} {N sz : Nat} {xs : List Value} (m : Nat) (hx : ev L x = some v) (hh : ev L xh = some (.int k' ih)) (hv : RdC w0 v N xs) (ht : sliB P t sz = true) (hm : m ≤ N) (e2 : ih = (m : Int) := by rfl) :
    Y P n S L ⟨dst, .slice t x none (some xh) none, rty, pos, af, gd⟩ (cutR v 0 m) := by
  obtain ⟨ad, hf, h2⟩ := hv.form
  have hc : N ≤ cpOf v := by
    rcases hv with ⟨rfl, rfl, _⟩ | ⟨ad, cap, rfl, h, _⟩
    · exact Nat.zero_le _
    · exact h
  have hx' := hx
  rw [hf] at hx'
  subst e2
  refine (y_cutSh hx' hh ht (by omega)).cast ?_
  rw [Int.toNat_natCast]
  exact (cutR_0.symm.trans (by rw [← hf]))
end
end Go.Proofs.YtnhpghhibcdklaaGreatDoor

/- Maps of one's own, keyed by strings, of whatever values. Own work for this project; no program in sight. -/
namespace Go.Proofs.YtnhpghhibcdklaaGreatDoor
open Go Go.RowKit Go.MapKept
abbrev KV := List (List UInt8 × Value)
def getS (kv : KV) (k : List UInt8) : Option Value := (kv.find? (fun p => decide (p.1 = k))).map Prod.snd
def putS (kv : KV) (k : List UInt8) (v : Value) : KV := kv.map (fun p => if p.1 = k then (k, v) else p)
def setS (kv : KV) (k : List UInt8) (v : Value) : KV := if (getS kv k).isSome then putS kv k v else kv ++ [(k, v)]
def ents (es : List MapEntry) : List (Value × Value) := es.map (fun e => (e.key, e.val))
def kvV (kv : KV) : List (Value × Value) := kv.map (fun p => (Str p.1, p.2))
theorem str_inj {k l : List UInt8} (h : Str k = Str l) : k = l := by simpa [Str] using h
theorem getS_none {kv : KV} {k : List UInt8} (h : getS kv k = none) : ∀ p ∈ kv, p.1 ≠ k := fun p hp e => by
  unfold getS at h
  rw [Option.map_eq_none_iff, List.find?_eq_none] at h
  exact h p hp (by simp [e])
theorem putS_id {kv : KV} {k : List UInt8} {v : Value} (h : ∀ p ∈ kv, p.1 ≠ k) : putS kv k v = kv := by
  unfold putS
  induction kv with
  | nil => rfl
  | cons p kv ih => rw [List.map_cons, if_neg (h p (by simp)), ih (fun q hq => h q (by simp [hq]))]
theorem ba_beq (k l : List UInt8) : ((⟨k.toArray⟩ : ByteArray) == ⟨l.toArray⟩) = decide (k = l) := by
  show ((⟨k.toArray⟩ : ByteArray).data == (⟨l.toArray⟩ : ByteArray).data) = _
  rw [Bool.eq_iff_iff, beq_iff_eq]; simp
theorem same_str {k l : List UInt8} : Instr.sameNow .string (Str k) (Str l) = some (decide (k = l)) := by
  exact congrArg some (ba_beq k l)
theorem findNow_none {k : List UInt8} : ∀ (es : List MapEntry) (kv : KV) (i : Nat), ents es = kvV kv → getS kv k = none → Instr.findNow .string (Str k) es i = some none
  | [], [], _, _, _ => rfl
  | x :: es, p :: kv, i, h, hg => by
    simp only [ents, kvV, List.map_cons, List.cons.injEq, Prod.mk.injEq] at h
    have hp := getS_none hg
    have h1 : Instr.sameNow .string (Str k) x.key = some false := by rw [h.1.1, same_str, decide_eq_false (fun e => hp p (by simp) e.symm)]
    simp only [Instr.findNow, h1]
    refine findNow_none es kv (i + 1) h.2 ?_
    unfold getS; rw [Option.map_eq_none_iff, List.find?_eq_none]
    intro q hq; simp [hp q (by simp [hq])]
  | [], _ :: _, _, h, _ => by cases h
  | _ :: _, [], _, h, _ => by cases h
theorem findNow_some {k : List UInt8} {v v' : Value} : ∀ (es : List MapEntry) (kv : KV) (i : Nat), ents es = kvV kv → getS kv k = some v → ∃ j, Instr.findNow .string (Str k) es i = some (some (i + j, v)) ∧ (es[j]?).map (·.key) = some (Str k) ∧
    ((es.map (·.key)).Nodup → ∀ f : MapEntry → MapEntry, (∀ e, e.key = Str k → (f e).key = Str k ∧ (f e).val = v') → ents (es.modify j f) = kvV (putS kv k v'))
  | [], [], _, _, h => by cases h
  | x :: es, p :: kv, i, h, hg => by
    simp only [ents, kvV, List.map_cons, List.cons.injEq, Prod.mk.injEq] at h
    by_cases hk : p.1 = k
    · have h1 : Instr.sameNow .string (Str k) x.key = some true := by rw [h.1.1, same_str, decide_eq_true hk.symm]
      have h2 : v = p.2 := by simpa [getS, hk] using hg.symm
      refine ⟨0, by simp only [Instr.findNow, h1]; rw [h.1.2, h2]; rfl, by rw [List.getElem?_cons_zero]; simp [h.1.1, hk], fun hnd f hf => ?_⟩
      have h3 : ∀ q ∈ kv, q.1 ≠ k := fun q hq e => by
        have : Str q.1 ∈ es.map (·.key) := by
          have h4 : (Str q.1, q.2) ∈ kvV kv := List.mem_map.2 ⟨q, hq, rfl⟩
          rw [show kvV kv = ents es from h.2.symm] at h4
          obtain ⟨y, hy, e2⟩ := List.mem_map.1 h4
          exact List.mem_map.2 ⟨y, hy, congrArg Prod.fst e2⟩
        rw [List.map_cons, List.nodup_cons] at hnd
        exact hnd.1 (by rw [h.1.1, hk, ← e]; exact this)
      have hx : x.key = Str k := by rw [h.1.1, hk]
      rw [List.modify_zero_cons]
      have e4 : ents es = kvV kv := h.2
      unfold putS
      rw [List.map_cons, if_pos hk]
      show ((f x).key, (f x).val) :: ents es = (Str k, v') :: kvV (putS kv k v')
      rw [putS_id h3, e4, (hf x hx).1, (hf x hx).2]
    · have h1 : Instr.sameNow .string (Str k) x.key = some false := by rw [h.1.1, same_str, decide_eq_false (fun e => hk e.symm)]
      have hg' : getS kv k = some v := by simpa [getS, hk] using hg
      obtain ⟨j, h3, h4, h5⟩ := findNow_some (v' := v') es kv (i + 1) h.2 hg'
      refine ⟨j + 1, by simp only [Instr.findNow, h1]; rw [h3]; congr 3; omega, by rw [List.getElem?_cons_succ]; exact h4, fun hnd f hf => ?_⟩
      rw [List.map_cons, List.nodup_cons] at hnd
      rw [List.modify_succ_cons]
      have h6 := h5 hnd.2 f hf
      unfold putS
      rw [List.map_cons, if_neg hk]
      show (x.key, x.val) :: ents (es.modify j f) = (Str p.1, p.2) :: kvV (putS kv k v')
      rw [h6, h.1.1, h.1.2]
  | [], _ :: _, _, h, _ => by cases h
  | _ :: _, [], _, h, _ => by cases h
/-- block b is a map that holds this -/
def mapS (b : Nat) (kv : KV) : Res where
  fp k := k = b
  holds w := ∃ es clock, w.heap[b]? = some (.map es clock) ∧ ents es.toList = kvV kv ∧ Stamped es clock
  loc w w' h := by
    rintro ⟨es, clock, h1, h2⟩
    exact ⟨es, clock, (h b rfl).trans h1, h2⟩
  bnd w := by
    rintro ⟨es, clock, h1, h2⟩ k rfl
    exact (Array.getElem?_eq_some_iff.1 h1).1
theorem mapS_cast {b : Nat} {kv kv' : KV} (h : kv = kv') : mapS b kv = mapS b kv' := by rw [h]
section
variable {P : Program} {n : Nat} {S : World → Prop} {L : Sl} {dst : Option Tmp} {rty : TypeId} {pos : String} {af : Array Edge} {gd : Option (Nat × Bool)}
  {t t' : TypeId} {x y z : Operand}
theorem run_checkStr {w : World} {kt : TypeId} {em : Bool} {k : List UInt8} (ht : P.underlying kt = some .string) : (Instr.checkKey em 10000 kt (Str k)).run P w = .ok () w := by
  rw [Instr.checkKey, Sem.run_bind, run_underlying ht]; rfl
theorem run_findStr {w : World} {kt : TypeId} {k : List UInt8} {es : List MapEntry} {r : Option (Nat × Value)} (ht : P.underlying kt = some .string) (h : Instr.findNow .string (Str k) es 0 = some r) : (Instr.findKey kt (Str k) es).run P w = .ok r w := by
  simp [Instr.findKey, run_underlying ht, h]
/-- m[k], and whether it is there -/
theorem y_getS {b : Nat} {kt vt : TypeId} {kv : KV} {k : List UInt8} {zv : Value} (hx : ev L x = some (.map (some b))) (hy : ev L y = some (Str k)) (hm : P.underlying t = some (.map kt vt)) (ht : P.underlying kt = some .string)
    (hz : ∀ w, (zeroValue vt).run P w = .ok zv w) (hS : ∀ w, S w → (mapS b kv).holds w) : Y P n S L ⟨dst, .lookup t x y false, rty, pos, af, gd⟩ ((getS kv k).getD zv) := fun a w ha hw => by
  have h1 := ha.ev hx; have h2 := ha.ev hy
  obtain ⟨es, clock, hb, hes, _⟩ := hS w hw
  have hgo : (getObj b).run P w = .ok (.map es clock) w := by simp [getObj, Sem.run, hb]
  have hck := run_checkStr (P := P) (w := w) (em := es.isEmpty) (k := k) ht
  cases hc : getS kv k with
  | none =>
    have hj := run_findStr (P := P) (w := w) ht (findNow_none es.toList kv 0 hes hc)
    simp [execOp, h1, h2, Instr.lookup, run_underlying hm, hgo, hck, hj, hz w]
  | some v =>
    obtain ⟨j, hj, _⟩ := findNow_some (v' := v) es.toList kv 0 hes hc
    have hj := run_findStr (P := P) (w := w) ht hj
    simp [execOp, h1, h2, Instr.lookup, run_underlying hm, hgo, hck, hj]
theorem y_getSok {b : Nat} {kt vt : TypeId} {kv : KV} {k : List UInt8} {zv : Value} (hx : ev L x = some (.map (some b))) (hy : ev L y = some (Str k)) (hm : P.underlying t = some (.map kt vt)) (ht : P.underlying kt = some .string)
    (hz : ∀ w, (zeroValue vt).run P w = .ok zv w) (hS : ∀ w, S w → (mapS b kv).holds w) : Y P n S L ⟨dst, .lookup t x y true, rty, pos, af, gd⟩ (.tuple #[(getS kv k).getD zv, .bool (getS kv k).isSome]) := fun a w ha hw => by
  have h1 := ha.ev hx; have h2 := ha.ev hy
  obtain ⟨es, clock, hb, hes, _⟩ := hS w hw
  have hgo : (getObj b).run P w = .ok (.map es clock) w := by simp [getObj, Sem.run, hb]
  have hck := run_checkStr (P := P) (w := w) (em := es.isEmpty) (k := k) ht
  cases hc : getS kv k with
  | none =>
    have hj := run_findStr (P := P) (w := w) ht (findNow_none es.toList kv 0 hes hc)
    simp [execOp, h1, h2, Instr.lookup, run_underlying hm, hgo, hck, hj, hz w]
  | some v =>
    obtain ⟨j, hj, _⟩ := findNow_some (v' := v) es.toList kv 0 hes hc
    have hj := run_findStr (P := P) (w := w) ht hj
    simp [execOp, h1, h2, Instr.lookup, run_underlying hm, hgo, hck, hj]
end
section
variable {c : Cx} {L : Sl} {H : List Res} {P : Program} {Q : Exit → Act → World → Prop} {K : Act → World → Prop} {d : Nat} {rty : TypeId} {pos : String} {af : Array Edge} {gd : Option (Nat × Bool)} {t t' : TypeId} {x y z : Operand}
theorem a_makeMapS (hn : Nat.blt d c.n = true) (h : ∀ b, TK c K ((d, .map (some b)) :: L) (mapS b [] :: H)) :
    TK c (fun a w => (⟨some d, .makeMap t none, rty, pos, af, gd⟩ : Oper).wp P a w K Q) L H := fun a w ha hw => by
  have e : (execOp a.eval (⟨some d, .makeMap t none, rty, pos, af, gd⟩ : Oper)).run P w = .ok (.value (.map (some w.heap.size))) { w with heap := w.heap.push (.map #[] 0) } := by
    simp [execOp, Instr.makeMap, newObj]
    rfl
  change Oper.upon P _ a K Q ((execOp a.eval _).run P w)
  rw [e, Oper.upon_value]
  refine h w.heap.size _ _ (ha.put hn _) (St.new (w' := { w with heap := w.heap.push (.map #[] 0) }) (N := [mapS w.heap.size []]) hw ⟨rfl, rfl, rfl, by simp, fun k hk _ => by simp [Array.getElem?_push, Nat.ne_of_lt hk]⟩ ⟨⟨#[], 0, by simp, rfl, stamped_empty 0⟩, trivial⟩ ⟨fun _ _ h => h, trivial⟩ (fun k hk => ?_))
  rcases hk with hk | hk
  · have : k = w.heap.size := hk
    omega
  · exact hk.elim
theorem a_setS {H1 H2 : List Res} {b : Nat} {kt vt : TypeId} {kv : KV} {k : List UInt8} {v : Value} (hx : ev L x = some (.map (some b))) (hy : ev L y = some (Str k)) (hv : ev L z = some v) (hm : P.underlying t = some (.map kt vt)) (ht : P.underlying kt = some .string)
    (hH : H = H1 ++ mapS b kv :: H2) (h : TK c K L (H1 ++ mapS b (setS kv k v) :: H2)) :
    TK c (fun a w => (⟨none, .mapUpdate t x y z, rty, pos, af, gd⟩ : Oper).wp P a w K Q) L H := fun a w ha hw => by
  subst hH
  have h1 := ha.ev hx; have h2 := ha.ev hy; have h3 := ha.ev hv
  obtain ⟨es, clock, hb, hes, hst⟩ := hw.mem (r := mapS b kv) (by simp)
  have hck := run_checkStr (P := P) (w := w) (em := false) (k := k) ht
  have hlt := (Array.getElem?_eq_some_iff.1 hb).1
  have hgo : (getObj b).run P w = .ok (.map es clock) w := by simp [getObj, Sem.run, hb]
  have hso : ∀ o : Obj, (setObj b o).run P w = .ok () { w with heap := w.heap.setIfInBounds b o } := fun o => by simp [setObj, Sem.run, hb]
  have key : ∃ es' clock', (execOp a.eval (⟨none, .mapUpdate t x y z, rty, pos, af, gd⟩ : Oper)).run P w = .ok .skip { w with heap := w.heap.setIfInBounds b (.map es' clock') } ∧ ents es'.toList = kvV (setS kv k v) ∧ Stamped es' clock' := by
    cases hc : getS kv k with
    | none =>
      have hj := run_findStr (P := P) (w := w) ht (findNow_none es.toList kv 0 hes hc)
      refine ⟨es.push { key := Str k, val := v, born := clock }, clock + 1, ?_, ?_, stamped_push hst (fun e he heq => ?_)⟩
      · simp [execOp, h1, h2, h3, Instr.mapUpdate, run_underlying hm, hgo, hck, hj, hso]
      · simp only [setS, hc, Option.isSome_none, Bool.false_eq_true, if_false, Array.toList_push, ents, kvV, List.map_append, List.map_cons, List.map_nil] at hes ⊢
        rw [hes]
      · have : (e.key, e.val) ∈ ents es.toList := List.mem_map.2 ⟨e, he, rfl⟩
        rw [hes] at this
        obtain ⟨p, hp, e2⟩ := List.mem_map.1 this
        have e3 : Str p.1 = e.key := congrArg Prod.fst e2
        exact getS_none hc p hp (str_inj (by rw [e3, heq]))
    | some u =>
      obtain ⟨j, hj, hkey, hmod⟩ := findNow_some (v' := v) es.toList kv 0 hes hc
      have hj := run_findStr (P := P) (w := w) ht hj
      rw [Nat.zero_add] at hj
      have hkey2 : (es[j]?).map (·.key) = some (Str k) := by rw [← Array.getElem?_toList]; exact hkey
      have hstay : (Instr.keyThatStays (Str k) (Str k)).run P w = .ok (Str k) w := by
        have : Instr.sameBits 10000 (Str k) (Str k) = true := by simp only [Instr.sameBits]; rw [ba_beq]; simp
        simp [Instr.keyThatStays, this]
      refine ⟨es.modify j fun e => { e with key := Str k, val := v }, clock, ?_, ?_, stamped_modify hst j _ (fun e _ => rfl) ?_⟩
      · simp [execOp, h1, h2, h3, Instr.mapUpdate, run_underlying hm, hgo, hck, hj, hso, hkey2, hstay]
      · simp only [setS, hc, Option.isSome_some, if_true]
        rw [Array.toList_modify]
        exact hmod hst.2.2 _ (fun e _ => ⟨rfl, rfl⟩)
      · intro e _ he
        rw [he] at hkey2
        simpa using hkey2.symm
  obtain ⟨es', clock', e1, he2, hst2⟩ := key
  change Oper.upon P _ a K Q ((execOp a.eval _).run P w)
  rw [e1, Oper.upon_skip]
  refine h _ _ (ha.putNone _) (St.perm (St.turn (w' := { w with heap := w.heap.setIfInBounds b (.map es' clock') }) (N := [mapS b (setS kv k v)]) hw ⟨rfl, rfl, rfl, by simp, fun k hk hne => ?_⟩ ⟨⟨es', clock', by simp [hlt], he2, hst2⟩, trivial⟩ ⟨fun _ _ h => h, trivial⟩ ?_) perm_mid)
  · have hne' : ¬ b = k := fun e => hne e.symm
    simp [Array.getElem?_setIfInBounds, hne']
  · intro k hk
    rcases hk with hk | hk
    · exact .inl hk
    · exact hk.elim
end
end Go.Proofs.YtnhpghhibcdklaaGreatDoor

set_option linter.unusedSimpArgs false
set_option linter.unusedVariables false
namespace Go.Proofs.YtnhpghhibcdklaaGreatDoor
open Go
/-- an entry as it may be handed in -/
structure Eni where
  id : List UInt8
  kind : Int
  off : Int
  len : Int
  h : id.length = 32
deriving DecidableEq
def dEni : Eni := ⟨List.replicate 32 0, 0, 0, 0, rfl⟩
/-- a pack as it lies in memory: its name, its entries' slice, what that holds -/
structure Pk where
  name : List UInt8
  v : Value
  es : List Eni
def dPk : Pk := ⟨[], .slice none 0 0, []⟩
/-! ### names -/
def signB (c : UInt8) : Bool := decide (97 ≤ c.toNat ∧ c.toNat ≤ 122) || decide (48 ≤ c.toNat ∧ c.toNat ≤ 57) || decide (c.toNat = 45) || decide (c.toNat = 47)
def isNm (s : List UInt8) : Prop := s.all signB = true ∧ 1 ≤ s.length ∧ s.length ≤ 64
instance (s : List UInt8) : Decidable (isNm s) := by unfold isNm; infer_instance
def riseAt (l : List (List UInt8)) (i : Nat) : Prop := isNm (l.getD i []) ∧ (i = 0 ∨ strLe (l.getD i []) (l.getD (i - 1) []) = false)
instance (l : List (List UInt8)) (i : Nat) : Decidable (riseAt l i) := by unfold riseAt; infer_instance
def rises (l : List (List UInt8)) : Prop := ∀ i, i < l.length → riseAt l i
instance (l : List (List UInt8)) : Decidable (rises l) := by unfold rises; infer_instance
/-! ### a pack in form -/
def finE (es : List Eni) (i : Nat) : Int := if i = 0 then 0 else (es.getD (i - 1) dEni).off + (es.getD (i - 1) dEni).len
def idsE (es : List Eni) (i : Nat) : List (List UInt8) := (es.take i).map Eni.id
def goodE (es : List Eni) (i : Nat) : Prop := ((es.getD i dEni).kind = 1 ∨ (es.getD i dEni).kind = 2) ∧ finE es i ≤ (es.getD i dEni).off ∧ (es.getD i dEni).off ≤ 1048576 ∧ 48 ≤ (es.getD i dEni).len ∧ (es.getD i dEni).len ≤ 1048576 - (es.getD i dEni).off ∧ (es.getD i dEni).id ∉ idsE es i
instance (es : List Eni) (i : Nat) : Decidable (goodE es i) := by unfold goodE; infer_instance
def headN (n : List UInt8) (es : List Eni) : Prop := (2 ≤ n.length ∧ n.take 2 = [112, 47]) ∧ isNm n ∧ 1 ≤ es.length ∧ es.length ≤ 1000
instance (n : List UInt8) (es : List Eni) : Decidable (headN n es) := by unfold headN; infer_instance
def rightP (n : List UInt8) (es : List Eni) : Prop := headN n es ∧ ∀ i, i < es.length → goodE es i
instance (n : List UInt8) (es : List Eni) : Decidable (rightP n es) := by unfold rightP; infer_instance
def rightF (l : List Pk) (old : List (List UInt8)) : Prop := (l.length ≤ 1000 ∧ old.length ≤ 1000) ∧ (∀ i, i < l.length → rightP (l.getD i dPk).name (l.getD i dPk).es) ∧ rises (l.map Pk.name) ∧ rises old
instance (l : List Pk) (old : List (List UInt8)) : Decidable (rightF l old) := by unfold rightF; infer_instance
/-! ### a file's bytes -/
def textL (s : List UInt8) : List UInt8 := numL s.length ++ s
/-! ### few -/
end Go.Proofs.YtnhpghhibcdklaaGreatDoor
namespace Go.Proofs.YtnhpghhibcdklaaGreatDoor
open Go Go.ChangeShapes Go.WideShapes Go.ChangeAt Go.RowKit
set_option maxRecDepth 100000
set_option linter.unusedVariables false
set_option linter.unusedSimpArgs false
instance : Inhabited Eni := ⟨dEni⟩
instance : Inhabited Pk := ⟨dPk⟩
section
variable {H : Type} {enc : TypeId × Value → H} {P : Program} {W : World} {b0 : Nat} {sp : Nat → Bool} {held : Bool} {fuel : Nat} {cs : List Value} {x : DataW H × List MemPlace} {t : TypeId}
theorem op_wide {α : Type} [Inhabited α] {f : α → List Value} {k : Nat} {p : α → Prop} {e : TypeId} (ht : P.underlying t = some (.slice e)) (hk : P.cellsOf e = k) (hfk : ∀ a, (f a).length = k) (hk0 : 0 < k)
    (each : ∀ n cs' y, DataW.trod enc P W b0 sp held n e cs' = some y → ∃ a, cs' = f a ∧ p a) (h : DataW.trod enc P W b0 sp held fuel t cs = some x) :
    ∃ (v : Value) (l : List α), cs = [v] ∧ RdC W v l.length (l.flatMap f) ∧ (∀ a ∈ l, p a) ∧ l.length ≤ maxLen := by
  rcases Deep.open_slice ht h with ⟨rfl, _⟩ | ⟨a, len, cap, m, n, D, Pl, rfl, _, hl, hm, hmm, _, hx⟩
  · exact ⟨_, [], rfl, .inl ⟨rfl, rfl, rfl⟩, (fun _ h => nomatch h), Nat.zero_le _⟩
  have hlm : len ≤ m := by rw [hmm]; split <;> omega
  obtain ⟨R, hR⟩ := Deep.choose_lt (α := α) (p := fun i u => (∀ j, j < k → W.cell? ((a.add (i * k)).add j) = (f u)[j]?) ∧ p u) (n := len) (fun i hi => by
    obtain ⟨cs', h1, h2⟩ := hx i (by omega)
    rw [hk] at h1
    obtain ⟨_, _, hc⟩ := World.cells?_some h1
    obtain ⟨u, rfl, hp⟩ := each _ _ _ h2
    exact ⟨u, hc, hp⟩)
  refine ⟨_, (List.range len).map R, rfl, .inr ⟨a, cap, by simp, by simpa using hl, fun j u hj => ?_⟩, fun u hu => ?_, by simp; omega⟩
  · have hj2 : j < len * k := by
      have := (List.getElem?_eq_some_iff.1 hj).1
      rw [flat_len hfk] at this; simpa using this
    have hi : j / k < len := Nat.div_lt_of_lt_mul (by rw [Nat.mul_comm]; exact hj2)
    have hr : j % k < k := Nat.mod_lt _ hk0
    have hjj : j = j / k * k + j % k := by rw [Nat.mul_comm]; exact (Nat.div_add_mod j k).symm
    rw [hjj, flat_get (d0 := default) hfk (by simpa using hi) hr] at hj
    have e3 : ((List.range len).map R).getD (j / k) default = R (j / k) := by simp [List.getD_eq_getElem?_getD, hi]
    rw [e3, ← (hR _ hi).1 _ hr, Deep.add_add] at hj
    rw [hjj]; exact hj
  · obtain ⟨i, hi, rfl⟩ := List.mem_map.1 hu
    exact (hR i (List.mem_range.1 hi)).2
end
section
variable {H : Type} {enc : TypeId × Value → H} {W : World} {b0 : Nat} {sp : Nat → Bool} {held : Bool} {fuel : Nat} {cs : List Value} {x : DataW H × List MemPlace}
end
end Go.Proofs.YtnhpghhibcdklaaGreatDoor
set_option linter.unusedSimpArgs false
set_option linter.unusedVariables false
/- Maps keyed by strings: an entry taken away, how many there are, ranges over them. Own work for this project; no program in sight. -/
namespace Go.Proofs.YtnhpghhibcdklaaGreatDoor
open Go Go.RowKit Go.MapKept
open Go.ChangeMaps (setBlock)
def delS (kv : KV) (k : List UInt8) : KV := kv.filter (fun p => !decide (p.1 = k))
theorem delS_id {kv : KV} {k : List UInt8} (h : ∀ p ∈ kv, p.1 ≠ k) : delS kv k = kv := List.filter_eq_self.2 (fun p hp => by simp [h p hp])
theorem key_mem {es : List MapEntry} {kv : KV} (h : ents es = kvV kv) {q : List UInt8 × Value} (hq : q ∈ kv) : Str q.1 ∈ es.map (·.key) := by
  have h4 : (Str q.1, q.2) ∈ kvV kv := List.mem_map.2 ⟨q, hq, rfl⟩
  rw [← h] at h4
  obtain ⟨y, hy, e2⟩ := List.mem_map.1 h4
  exact List.mem_map.2 ⟨y, hy, congrArg Prod.fst e2⟩
theorem ents_erase {k : List UInt8} : ∀ {es : List MapEntry} {kv : KV} {j : Nat}, ents es = kvV kv → (es.map (·.key)).Nodup → (es[j]?).map (·.key) = some (Str k) → ents (es.eraseIdx j) = kvV (delS kv k)
  | [], _, j, _, _, hj => by simp at hj
  | x :: es, [], _, h, _, _ => by cases h
  | x :: es, p :: kv, j, h, hn, hj => by
    have h0 : ents es = kvV kv := by simp only [ents, kvV, List.map_cons, List.cons.injEq] at h; exact h.2
    have hx : x.key = Str p.1 := by simp only [ents, kvV, List.map_cons, List.cons.injEq, Prod.mk.injEq] at h; exact h.1.1
    have hv : x.val = p.2 := by simp only [ents, kvV, List.map_cons, List.cons.injEq, Prod.mk.injEq] at h; exact h.1.2
    rw [List.map_cons, List.nodup_cons] at hn
    cases j with
    | zero =>
      have hp : p.1 = k := by rw [List.getElem?_cons_zero, Option.map_some, Option.some.injEq, hx] at hj; exact str_inj hj
      have h3 : delS kv k = kv := delS_id (fun q hq e => hn.1 (by rw [hx, hp, ← e]; exact key_mem h0 hq))
      have e1 : delS (p :: kv) k = delS kv k := by simp [delS, hp]
      rw [List.eraseIdx_zero, List.tail_cons, e1, h3]; exact h0
    | succ j =>
      rw [List.getElem?_cons_succ] at hj
      have hp : p.1 ≠ k := fun e => hn.1 (by
        obtain ⟨y, hy, e2⟩ := Option.map_eq_some_iff.1 hj
        rw [hx, e, ← e2]; exact List.mem_map.2 ⟨y, List.mem_of_getElem? hy, rfl⟩)
      have e1 : delS (p :: kv) k = p :: delS kv k := by simp [delS, hp]
      have ih := ents_erase h0 hn.2 hj
      rw [List.eraseIdx_cons_succ, e1]
      show (x.key, x.val) :: ents (es.eraseIdx j) = (Str p.1, p.2) :: kvV (delS kv k)
      rw [ih, hx, hv]
/-- an iterator r over the map b that holds kv; vis: what has come -/
def itS (r b : Nat) (kv vis : KV) : Res where
  fp k := k = b ∨ k = r
  holds w := ∃ es clock seen vs, w.heap[b]? = some (.map es clock) ∧ ents es.toList = kvV kv ∧ Stamped es clock ∧ w.heap[r]? = some (.mapIter (some b) clock seen clock) ∧ seen.toList = vs.map (·.born) ∧ ents vs = kvV vis ∧ (vs ++ (leftOf es seen).toList).Perm es.toList
  loc w w' h := by
    rintro ⟨es, clock, seen, vs, h1, h2, h3, h4, h5⟩
    exact ⟨es, clock, seen, vs, (h b (.inl rfl)).trans h1, h2, h3, (h r (.inr rfl)).trans h4, h5⟩
  bnd w := by
    rintro ⟨es, clock, seen, vs, h1, h2, h3, h4, h5⟩ k (rfl | rfl)
    · exact (Array.getElem?_eq_some_iff.1 h1).1
    · exact (Array.getElem?_eq_some_iff.1 h4).1
theorem perm_pick {l : List MapEntry} {e : MapEntry} (hn : (l.map (·.born)).Nodup) (he : e ∈ l) : l.Perm (e :: l.filter (fun x => !(x.born == e.born))) := by
  induction l with
  | nil => cases he
  | cons x l ih =>
    rw [List.map_cons, List.nodup_cons] at hn
    by_cases hx : x.born = e.born
    · have hex : e = x := by
        rcases List.mem_cons.1 he with h | h
        · exact h
        · exact (hn.1 (by rw [hx]; exact List.mem_map.2 ⟨e, h, rfl⟩)).elim
      subst hex
      have : l.filter (fun x => !(x.born == e.born)) = l := List.filter_eq_self.2 (fun y hy => by
        have : y.born ≠ e.born := fun h => hn.1 (by rw [← h]; exact List.mem_map.2 ⟨y, hy, rfl⟩)
        simp [this])
      rw [List.filter_cons, if_neg (by simp), this]
    · have hel : e ∈ l := (List.mem_cons.1 he).resolve_left (fun h => hx (by rw [h]))
      rw [List.filter_cons, if_pos (by simp [hx])]
      exact ((ih hn.2 hel).cons x).trans (List.Perm.swap ..)
theorem left_push {es : Array MapEntry} {seen : Array Nat} {b : Nat} : (leftOf es (seen.push b)).toList = (leftOf es seen).toList.filter (fun x => !(x.born == b)) := by
  unfold leftOf
  rw [Array.toList_filter, Array.toList_filter, List.filter_filter]
  congr 1
  funext x
  rw [Array.contains_push, Bool.not_or, Bool.and_comm]
theorem perm_ents {l m : List MapEntry} (h : l.Perm m) : (ents l).Perm (ents m) := h.map _
theorem perm_kvV {a b : KV} (h : (kvV a).Perm (kvV b)) : a.Perm b := by
  have hi : ∀ p q : List UInt8 × Value, (Str p.1, p.2) = (Str q.1, q.2) → p = q := fun p q e => by
    simp only [Prod.mk.injEq] at e
    exact Prod.ext (str_inj e.1) e.2
  have hinv : ∀ p : List UInt8 × Value, (fun q : Value × Value => (match q.1 with | .string s => s.data.toList | _ => [], q.2)) (Str p.1, p.2) = p := fun p => by simp [Str]
  have h2 := h.map (fun q : Value × Value => (match q.1 with | .string s => s.data.toList | _ => ([] : List UInt8), q.2))
  have e : ∀ a : KV, (kvV a).map (fun q : Value × Value => (match q.1 with | .string s => s.data.toList | _ => ([] : List UInt8), q.2)) = a := fun a => by
    unfold kvV
    rw [List.map_map]
    refine (List.map_congr_left (fun p _ => ?_)).trans (List.map_id a)
    simp [Str]
  rwa [e, e] at h2
section
variable {c : Cx} {L : Sl} {H : List Res} {P : Program} {Q : Exit → Act → World → Prop} {K : Act → World → Prop} {d : Nat} {rty : TypeId} {pos : String} {af : Array Edge} {gd : Option (Nat × Bool)} {t t' : TypeId} {x y z : Operand}
theorem a_delS {H1 H2 : List Res} {b : Nat} {kt vt : TypeId} {kv : KV} {k : List UInt8} (hx : ev L x = some (.map (some b))) (hy : ev L y = some (Str k)) (hm : P.underlying t = some (.map kt vt)) (ht : P.underlying kt = some .string)
    (hH : H = H1 ++ mapS b kv :: H2) (h : TK c K L (H1 ++ mapS b (delS kv k) :: H2)) :
    TK c (fun a w => (⟨none, .call { callee := .builtin .delete, args := #[x, y], argTypes := #[t, t'] }, rty, pos, af, gd⟩ : Oper).wp P a w K Q) L H := fun a w ha hw => by
  subst hH
  have h1 := ha.ev hx; have h2 := ha.ev hy
  obtain ⟨es, clock, hb, hes, hst⟩ := hw.mem (r := mapS b kv) (by simp)
  have hck := run_checkStr (P := P) (w := w) (em := es.isEmpty) (k := k) ht
  have hlt := (Array.getElem?_eq_some_iff.1 hb).1
  have hgo : (getObj b).run P w = .ok (.map es clock) w := by simp [getObj, Sem.run, hb]
  have hso : ∀ o : Obj, (setObj b o).run P w = .ok () { w with heap := w.heap.setIfInBounds b o } := fun o => by simp [setObj, Sem.run, hb]
  have key : ∃ es', (execOp a.eval (⟨none, .call { callee := .builtin .delete, args := #[x, y], argTypes := #[t, t'] }, rty, pos, af, gd⟩ : Oper)).run P w = .ok (.value (.tuple #[])) { w with heap := w.heap.setIfInBounds b (.map es' clock) } ∧ ents es'.toList = kvV (delS kv k) ∧ Stamped es' clock := by
    cases hc : getS kv k with
    | none =>
      have hj := run_findStr (P := P) (w := w) ht (findNow_none es.toList kv 0 hes hc)
      refine ⟨es, ?_, by rw [delS_id (getS_none hc)]; exact hes, hst⟩
      simp [execOp, resolve, invoke, builtin, h1, h2, Builtin.delete_, run_underlying hm, hgo, hck, hj, hso]
    | some u =>
      obtain ⟨j, hj, hkey, _⟩ := findNow_some (v' := u) es.toList kv 0 hes hc
      have hj := run_findStr (P := P) (w := w) ht hj
      rw [Nat.zero_add] at hj
      refine ⟨es.eraseIdxIfInBounds j, ?_, ?_, stamped_erase hst j⟩
      · simp [execOp, resolve, invoke, builtin, h1, h2, Builtin.delete_, run_underlying hm, hgo, hck, hj, hso]
      · rw [Array.toList_eraseIdxIfInBounds]
        exact ents_erase hes hst.2.2 hkey
  obtain ⟨es', e1, he2, hst2⟩ := key
  change Oper.upon P _ a K Q ((execOp a.eval _).run P w)
  rw [e1, Oper.upon_value]
  refine h _ _ (ha.putNone _) (St.perm (St.turn (w' := { w with heap := w.heap.setIfInBounds b (.map es' clock) }) (N := [mapS b (delS kv k)]) hw ⟨rfl, rfl, rfl, by simp, fun k hk hne => ?_⟩ ⟨⟨es', clock, by simp [hlt], he2, hst2⟩, trivial⟩ ⟨fun _ _ h => h, trivial⟩ ?_) perm_mid)
  · have hne' : ¬ b = k := fun e => hne e.symm
    simp [Array.getElem?_setIfInBounds, hne']
  · intro k hk
    rcases hk with hk | hk
    · exact .inl hk
    · exact hk.elim
theorem a_rangeS {H1 H2 : List Res} {b : Nat} {kt vt : TypeId} {kv : KV} (hx : ev L x = some (.map (some b))) (hm : P.underlying t = some (.map kt vt)) (hn : Nat.blt d c.n = true)
    (hH : H = H1 ++ mapS b kv :: H2) (h : ∀ r, TK c K ((d, .pointer (some ⟨r, 0, none⟩)) :: L) (H1 ++ itS r b kv [] :: H2)) :
    TK c (fun a w => (⟨some d, .range t x, rty, pos, af, gd⟩ : Oper).wp P a w K Q) L H := fun a w ha hw => by
  subst hH
  have h1 := ha.ev hx
  obtain ⟨es, clock, hb, hes, hst⟩ := hw.mem (r := mapS b kv) (by simp)
  have hlt := (Array.getElem?_eq_some_iff.1 hb).1
  have e1 : (execOp a.eval (⟨some d, .range t x, rty, pos, af, gd⟩ : Oper)).run P w = .ok (.value (.pointer (some ⟨w.heap.size, 0, none⟩))) { w with heap := w.heap.push (.mapIter (some b) clock #[] clock) } := by
    have hgo : (getObj b).run P w = .ok (.map es clock) w := by simp [getObj, Sem.run, hb]
    simp [execOp, h1, Instr.range, run_underlying hm, hgo, newObj]
    rfl
  change Oper.upon P _ a K Q ((execOp a.eval _).run P w)
  rw [e1, Oper.upon_value]
  refine h w.heap.size _ _ (ha.put hn _) (St.perm (St.turn (w' := { w with heap := w.heap.push (.mapIter (some b) clock #[] clock) }) (N := [itS w.heap.size b kv []]) hw ⟨rfl, rfl, rfl, by simp, fun k hk hne => by simp [Array.getElem?_push, Nat.ne_of_lt hk]⟩ ⟨⟨es, clock, #[], [], ?_, hes, hst, by simp, rfl, rfl, ?_⟩, trivial⟩ ⟨fun _ _ h => h, trivial⟩ ?_) perm_mid)
  · simp [Array.getElem?_push, Nat.ne_of_lt hlt, hb]
  · have e : leftOf es #[] = es := by unfold leftOf; exact Array.filter_eq_self.2 (by simp)
    rw [e, List.nil_append]
  · intro k hk
    rcases hk with hk | hk
    · rcases hk with hk | hk
      · exact .inl hk
      · exact .inr (Nat.le_of_eq hk.symm)
    · exact hk.elim
theorem a_nextS {H1 H2 : List Res} {r b : Nat} {kv vis : KV} (hx : ev L x = some (.pointer (some ⟨r, 0, none⟩))) (hn : Nat.blt d c.n = true) (hH : H = H1 ++ itS r b kv vis :: H2)
    (h0 : vis.Perm kv → TK c K ((d, .tuple #[.bool false]) :: L) (H1 ++ itS r b kv vis :: H2))
    (h1 : ∀ p rest, (vis ++ p :: rest).Perm kv → TK c K ((d, .tuple #[.bool true, Str p.1, p.2]) :: L) (H1 ++ itS r b kv (vis ++ [p]) :: H2)) :
    TK c (fun a w => (⟨some d, .next x false, rty, pos, af, gd⟩ : Oper).wp P a w K Q) L H := fun a w ha hw => by
  subst hH
  have hv := ha.ev hx
  obtain ⟨es, clock, seen, vs, hb, hes, hst, hr, hs, hvs, hp⟩ := hw.mem (r := itS r b kv vis) (by simp)
  have hne : r ≠ b := fun e => by subst e; rw [hb] at hr; cases hr
  have hrl := (Array.getElem?_eq_some_iff.1 hr).1
  have hx2 : ∀ w' v, (Instr.next (.pointer (some ⟨r, 0, none⟩)) false rty).run P w = .ok v w' → (execOp a.eval (⟨some d, .next x false, rty, pos, af, gd⟩ : Oper)).run P w = .ok (.value v) w' := fun w' v h => by simp [execOp, hv, h]
  change Oper.upon P _ a K Q ((execOp a.eval _).run P w)
  rcases run_next_at (P := P) w rty r b clock clock seen es clock hr hb hst.1 (Nat.le_refl _) with ⟨hz, hrun⟩ | ⟨e, he, w1, hw1, hrun⟩
  · rw [hx2 _ _ hrun, Oper.upon_value]
    have hl : (leftOf es seen).toList = [] := List.eq_nil_of_length_eq_zero (by simpa using hz)
    rw [hl, List.append_nil] at hp
    have h2 := perm_ents hp
    rw [hvs, hes] at h2
    exact h0 (perm_kvV h2) _ _ (ha.put hn _) hw
  · rw [hx2 _ _ hrun, Oper.upon_value]
    have hem : e ∈ es.toList := hp.subset (List.mem_append_right _ he)
    have hek : (e.key, e.val) ∈ kvV kv := by rw [← hes]; exact List.mem_map.2 ⟨e, hem, rfl⟩
    obtain ⟨p, hpk, hpe⟩ := List.mem_map.1 hek
    have hk1 : Str p.1 = e.key := congrArg Prod.fst hpe
    have hk2 : p.2 = e.val := congrArg Prod.snd hpe
    have hbn : ((leftOf es seen).toList.map (·.born)).Nodup := by
      have h3 := (hp.map (·.born)).nodup_iff.2 hst.2.1
      rw [List.map_append] at h3
      exact (List.nodup_append.1 h3).2.1
    have hpk2 := perm_pick hbn he
    rw [← left_push] at hpk2
    have hpn : (vs ++ [e] ++ (leftOf es (seen.push e.born)).toList).Perm es.toList := by
      rw [List.append_assoc]
      exact ((List.Perm.append_left vs hpk2).symm).trans hp
    have hperm : ∃ rest, (vis ++ p :: rest).Perm kv := by
      have h4 := perm_ents hpn
      rw [hes] at h4
      have hsub : ∃ rest : KV, ents (leftOf es (seen.push e.born)).toList = kvV rest := by
        have : ∀ l : List MapEntry, (∀ x ∈ l, x ∈ es.toList) → ∃ rest : KV, ents l = kvV rest := by
          intro l
          induction l with
          | nil => intro _; exact ⟨[], rfl⟩
          | cons x l ih =>
            intro hl
            obtain ⟨rest, hrest⟩ := ih (fun y hy => hl y (List.mem_cons_of_mem _ hy))
            have hxk : (x.key, x.val) ∈ kvV kv := by rw [← hes]; exact List.mem_map.2 ⟨x, hl x (List.mem_cons_self ..), rfl⟩
            obtain ⟨q, _, hq⟩ := List.mem_map.1 hxk
            exact ⟨q :: rest, by show (x.key, x.val) :: ents l = (Str q.1, q.2) :: kvV rest; rw [hrest, hq]⟩
        exact this _ (fun x hx => hpn.subset (List.mem_append_right _ hx))
      obtain ⟨rest, hrest⟩ := hsub
      refine ⟨rest, perm_kvV ?_⟩
      have e5 : kvV (vis ++ p :: rest) = ents (vs ++ [e] ++ (leftOf es (seen.push e.born)).toList) := by
        simp only [kvV, ents, List.map_append, List.map_cons, List.map_nil] at hvs hrest ⊢
        rw [hrest, hvs, hpe, List.append_assoc]; rfl
      rw [e5]; exact h4
    obtain ⟨rest, hrest⟩ := hperm
    have hb1 : w1.heap = w.heap := by rcases hw1 with rfl | rfl <;> rfl
    have hwv : St c w1 (H1 ++ itS r b kv vis :: H2) := by rcases hw1 with rfl | rfl
                                                          · exact hw
                                                          · exact hw.drew
    have := h1 p rest hrest
    rw [hk1, hk2] at this
    have hsz : ∀ k, (setBlock w1 r (.mapIter (some b) clock (seen.push e.born) clock)).heap[k]? = if r = k then some (.mapIter (some b) clock (seen.push e.born) clock) else w.heap[k]? := fun k => by
      simp only [setBlock, hb1, Array.getElem?_setIfInBounds]
      split <;> simp_all
    refine this _ _ (ha.put hn _) (St.perm (St.turn (N := [itS r b kv (vis ++ [p])]) hwv ⟨rfl, rfl, rfl, by simp [setBlock], fun k hk hne' => ?_⟩ ⟨⟨es, clock, seen.push e.born, vs ++ [e], ?_, hes, hst, ?_, by simp [hs], ?_, hpn⟩, trivial⟩ ⟨fun _ _ h => h, trivial⟩ ?_) perm_mid)
    · rw [hsz, if_neg (fun e => hne' (.inr e.symm)), hb1]
    · rw [hsz, if_neg hne]; exact hb
    · rw [hsz, if_pos rfl]
    · simp only [ents, kvV, List.map_append, List.map_cons, List.map_nil] at hvs ⊢
      rw [hvs, hpe]
    · intro k hk
      rcases hk with hk | hk
      · exact .inl hk
      · exact hk.elim
/-- a range's end: the map stays -/
theorem tk_itS {r b : Nat} {kv vis : KV} (h : TK c K L (mapS b kv :: H)) : TK c K L (itS r b kv vis :: H) := fun a w ha hw => h a w ha (by
  obtain ⟨es, clock, seen, vs, hb, hes, hst, _⟩ := hw.hs.1
  exact ⟨hw.fr, ⟨⟨es, clock, hb, hes, hst⟩, hw.hs.2⟩, ⟨fun k hk hf => hw.dj.1 k (.inl hk) hf, hw.dj.2⟩, fun k hk => hw.own k (hk.imp (fun h => .inl h) id)⟩)
end
section
variable {P : Program} {n : Nat} {S : World → Prop} {L : Sl} {dst : Option Tmp} {rty : TypeId} {pos : String} {af : Array Edge} {gd : Option (Nat × Bool)}
  {t t' : TypeId} {x y z : Operand}
theorem y_entryS {r b : Nat} {kv vis : KV} {p : List UInt8 × Value} (hx : ev L x = some (.pointer (some ⟨r, 0, none⟩))) (hS : ∀ w, S w → (itS r b kv (vis ++ [p])).holds w) : Y P n S L ⟨dst, .entry x, rty, pos, af, gd⟩ (.tuple #[Str p.1, p.2]) := fun a w ha hw => by
  have h1 := ha.ev hx
  obtain ⟨es, clock, seen, vs, hb, hes, hst, hr, hs, hvs, hp⟩ := hS w hw
  have hne : vs ≠ [] := fun e => by subst e; simp [ents, kvV] at hvs
  obtain ⟨us, e, rfl⟩ : ∃ us e, vs = us ++ [e] := ⟨vs.dropLast, vs.getLast hne, (List.dropLast_concat_getLast hne).symm⟩
  have hem : e ∈ es.toList := hp.subset (by simp)
  have hpe : e.key = Str p.1 ∧ e.val = p.2 := by
    simp only [ents, kvV, List.map_append, List.map_cons, List.map_nil] at hvs
    have := List.append_inj_right' hvs rfl
    simpa using this
  have hsn : seen = (us.map (·.born)).toArray.push e.born := by
    apply Array.toList_inj.1
    rw [hs]; simp
  rw [hsn] at hr
  have hrun := run_entry_at (P := P) w r b clock (us.map (·.born)).toArray es clock e hr hb hem hst.2.1
  rw [hpe.1, hpe.2] at hrun
  simp [execOp, h1, hrun]
theorem y_lenM {b : Nat} {kt vt : TypeId} {kv : KV} (hx : ev L x = some (.map (some b))) (hm : P.underlying t = some (.map kt vt)) (hS : ∀ w, S w → (mapS b kv).holds w) : Y P n S L ⟨dst, .call { callee := .builtin .len, args := #[x], argTypes := #[t] }, rty, pos, af, gd⟩ (I ((kv.length : Nat) : Int)) := fun a w ha hw => by
  have h1 := ha.ev hx
  obtain ⟨es, clock, hb, hes, _⟩ := hS w hw
  have hl : es.size = kv.length := by
    have := congrArg List.length hes
    simpa [ents, kvV] using this
  have hgo : (getObj b).run P w = .ok (.map es clock) w := by simp [getObj, Sem.run, hb]
  simp [execOp, resolve, invoke, builtin, h1, Builtin.len_, Builtin.lenOf, run_underlying hm, hgo, hl]
  rfl
end
end Go.Proofs.YtnhpghhibcdklaaGreatDoor

/- Owned slices of wide elements: an element stored, the tail cleared and cut away. Own work for this project; no program in sight. -/
namespace Go.Proofs.YtnhpghhibcdklaaGreatDoor
open Go Go.RowKit
def cutW (v : Value) (lo hi sz : Nat) : Value := match v with
  | .slice ad _ cap => .slice (cutAd ad lo cap sz) (hi - lo) (cap - lo)
  | u => u
theorem row_put {c vs : List Value} {o j N : Nat} (h1 : j + vs.length ≤ N) (h2 : o + N ≤ c.length) : ((c.take (o + j) ++ vs ++ c.drop (o + j + vs.length)).drop o).take N = ((c.drop o).take N).take j ++ vs ++ ((c.drop o).take N).drop (j + vs.length) := by
  have hA : (c.take (o + j) ++ vs ++ c.drop (o + j + vs.length)).drop o = (c.drop o).take j ++ (vs ++ c.drop (o + j + vs.length)) := by
    rw [List.append_assoc, List.drop_append_of_le_length (by rw [List.length_take]; omega), List.drop_take, Nat.add_sub_cancel_left]
  have hl : ((c.drop o).take j).length = j := by rw [List.length_take, List.length_drop]; omega
  have e1 : N - j - vs.length = N - (j + vs.length) := by omega
  have e2 : o + j + vs.length = o + (j + vs.length) := by omega
  rw [hA, List.take_append, hl, List.take_of_length_le (by omega), List.take_append, List.take_of_length_le (l := vs) (by omega), List.take_take, List.drop_take, List.drop_drop, Nat.min_eq_left (by omega), List.append_assoc, e1, e2]
theorem row_cut {c vs d : List Value} {o j : Nat} (h2 : o + j ≤ c.length) : ((c.take (o + j) ++ vs ++ d).drop o).take j = (c.drop o).take j := by
  rw [List.append_assoc, List.drop_append_of_le_length (by rw [List.length_take]; omega), List.drop_take, Nat.add_sub_cancel_left, List.take_append_of_le_length (by rw [List.length_take, List.length_drop]; omega), List.take_take, Nat.min_self]
section
variable {c : Cx} {L : Sl} {H : List Res} {P : Program} {Q : Exit → Act → World → Prop} {K : Act → World → Prop} {d : Nat} {rty : TypeId} {pos : String} {af : Array Edge} {gd : Option (Nat × Bool)} {t t' : TypeId} {x y z : Operand} {v : Value}
theorem a_storeOwnC {H1 H2 : List Res} {n j m k : Nat} {xs vs : List Value} {e : TypeId} (hx : ev L x = some (.pointer (some ((adOf v).add j)))) (hy : ev L y = some (.agg vs.toArray)) (ht : szB P t m = true) (hk : vs.length = m) (hm0 : 0 < m)
    (hH : H = H1 ++ own v n xs e k :: H2) (hj : j + m ≤ n * k) (hone : ∀ u ∈ vs, u.oneCell' = true) (h : TK c K L (H1 ++ own v n (xs.take j ++ vs ++ xs.drop (j + m)) e k :: H2)) :
    TK c (fun a w => (⟨none, .store t x y, rty, pos, af, gd⟩ : Oper).wp P a w K Q) L H := fun a w ha hw => by
  subst hH
  have h1 := ha.ev hx; have h2 := ha.ev hy
  have hm : (own v n xs e k).holds w := hw.mem (by simp)
  obtain ⟨hl, h3⟩ := hm
  rcases h3 with ⟨rfl, rfl⟩ | ⟨g, o, cap, cur, fr, T, rfl, hg, hf, hc, hcm, hcs, htk⟩
  · omega
  · have had : (adOf (.slice (some ⟨g, o, none⟩) n cap)).add j = ⟨g, o + j, none⟩ := by simp only [adOf]; rw [add_w]
    rw [had] at h1
    have hnc : n * k ≤ cap * k := Nat.mul_le_mul_right k hc
    have hcl : cur.toList.length = cur.size := rfl
    obtain ⟨w', h4, h5, h6⟩ := run_storeCells P g T vs (o + j) 0 w cur.toList fr (by simpa using hg) (by simpa using hf) hone (by omega)
    have hus : (Value.agg vs.toArray).cells.size = m := by simp [Value.cells, hk]
    have hu : (Value.agg vs.toArray).cells.toList = vs := by simp [Value.cells]
    have e1 : (execOp a.eval (⟨none, .store t x y, rty, pos, af, gd⟩ : Oper)).run P w = .ok .skip w' := by
      simp only [execOp, h1, h2, Instr.storeAt, Instr.sureAddr, storeVar]
      simp [szB_run ht, hus, hu, h4]
    change Oper.upon P _ a K Q ((execOp a.eval _).run P w)
    rw [e1, Oper.upon_skip]
    rw [Nat.add_zero] at h5
    have hput := row_put (c := cur.toList) (vs := vs) (o := o) (j := j) (N := n * k) (by omega) (by omega)
    rw [htk] at hput
    refine h _ _ (ha.putNone _) (St.perm (St.turn (N := [own (.slice (some ⟨g, o, none⟩) n cap) n (xs.take j ++ vs ++ xs.drop (j + m)) e k]) hw (h6.mono (fun q hq => by show some g = some q; rw [hq])) ⟨⟨?_, .inr ⟨g, o, cap, _, fr, T, rfl, h5, ?_, hc, hcm, ?_, ?_⟩⟩, trivial⟩ ⟨fun _ _ h => h, trivial⟩ ?_) perm_mid)
    · simp only [List.length_append, List.length_take, List.length_drop]; omega
    · have : (cur.toList.take (o + j) ++ vs ++ cur.toList.drop (o + j + vs.length)).toArray.size = cur.size := by simp only [List.size_toArray, List.length_append, List.length_take, List.length_drop]; omega
      rw [this]; exact hf
    · simp only [List.size_toArray, List.length_append, List.length_take, List.length_drop]; omega
    · rw [hk] at hput; exact (by rw [hk]; exact hput)
    · intro q hq
      rcases hq with hq | hq
      · exact .inl hq
      · exact hq.elim
theorem flat_set {α : Type} {f : α → List Value} {k : Nat} (hf : ∀ a, (f a).length = k) {e : α} : ∀ {l : List α} {i : Nat}, i < l.length → (l.flatMap f).take (i * k) ++ f e ++ (l.flatMap f).drop (i * k + k) = (l.set i e).flatMap f
  | [], _, h => absurd h (by simp)
  | a :: l, 0, _ => by
    rw [Nat.zero_mul, List.take_zero, List.set_cons_zero, List.flatMap_cons, List.flatMap_cons, Nat.zero_add, List.drop_left' (hf a)]; rfl
  | a :: l, i + 1, h => by
    have ih := flat_set hf (e := e) (l := l) (i := i) (by simpa using h)
    rw [List.set_cons_succ, List.flatMap_cons, List.flatMap_cons, ← ih, Nat.add_mul, Nat.one_mul]
    have e1 : (f a ++ l.flatMap f).take (i * k + k) = f a ++ (l.flatMap f).take (i * k) := by rw [Nat.add_comm, ← hf a, List.take_length_add_append]
    have e2 : (f a ++ l.flatMap f).drop (i * k + k + k) = (l.flatMap f).drop (i * k + k) := by rw [show i * k + k + k = (f a).length + (i * k + k) by rw [hf a]; omega, List.drop_length_add_append]
    rw [e1, e2]; simp only [List.append_assoc]
/-- an element of an owned slice is stored -/
theorem a_storeElt {H1 H2 : List Res} {α : Type} {f : α → List Value} {l : List α} {e : α} {i k : Nat} {T : TypeId} (hx : ev L x = some (.pointer (some ((adOf v).add (i * k + 0))))) (hy : ev L y = some (.agg (f e).toArray)) (ht : szB P t k = true) (hf : ∀ a, (f a).length = k) (hk0 : 0 < k)
    (hH : H = H1 ++ ownA f k v l T :: H2) (hi : i < l.length) (hone : ∀ u ∈ f e, u.oneCell' = true) (h : TK c K L (H1 ++ ownA f k v (l.set i e) T :: H2)) :
    TK c (fun a w => (⟨none, .store t x y, rty, pos, af, gd⟩ : Oper).wp P a w K Q) L H :=
  a_storeOwnC (k := k) (n := l.length) (xs := l.flatMap f) hx hy ht (hf e) hk0 hH (by
    have := Nat.mul_le_mul_right k (show i + 1 ≤ l.length from hi)
    rw [Nat.add_mul] at this; omega) hone (by rw [Nat.add_zero, flat_set hf hi]; have e2 : (l.set i e).length = l.length := List.length_set; unfold ownA at h; rw [e2] at h; exact h)
/-- the tail is cleared: from here on the slice is told as far as i alone -/
theorem a_clearCutZ {H1 H2 : List Res} {α : Type} {f : α → List Value} {l : List α} {i k : Nat} {T e : TypeId} {zc : List Value} {z : Value} (hx : ev L x = some (cutW v i l.length k)) (ht : P.underlying t = some (.slice e)) (hz : ∀ w, (zeroValue e).run P w = .ok z w) (hzc : z.cells = zc.toArray) (hzl : zc.length = k) (hk0 : 0 < k) (hzo : ∀ u ∈ zc, u.oneCell' = true) (hf : ∀ a, (f a).length = k)
    (hH : H = H1 ++ ownA f k v l T :: H2) (hi : i ≤ l.length) (h : TK c K L (H1 ++ ownA f k (cutR v 0 i) (l.take i) T :: H2)) :
    TK c (fun a w => (⟨none, .call { callee := .builtin .clear, args := #[x], argTypes := #[t] }, rty, pos, af, gd⟩ : Oper).wp P a w K Q) L H := fun a w ha hw => by
  subst hH
  have h1 := ha.ev hx
  have hm : (ownA f k v l T).holds w := hw.mem (by simp)
  obtain ⟨hl, h3⟩ := hm
  have hti : (l.take i).length = i := by rw [List.length_take]; omega
  change Oper.upon P _ a K Q ((execOp a.eval _).run P w)
  rcases h3 with ⟨rfl, h0⟩ | ⟨g, o, cap, cur, fr, T', rfl, hg, hfr, hc, hcm, hcs, htk⟩
  · have hl0 : l = [] := List.eq_nil_of_length_eq_zero h0
    subst hl0
    obtain rfl : i = 0 := by simpa using hi
    have e1 : (execOp a.eval (⟨none, .call { callee := .builtin .clear, args := #[x], argTypes := #[t] }, rty, pos, af, gd⟩ : Oper)).run P w = .ok (.value (.tuple #[])) w := by
      simp [execOp, resolve, invoke, builtin, h1, cutW, cutAd, Builtin.clear_, run_underlying ht]
    rw [e1, Oper.upon_value]
    exact h _ _ (ha.putNone _) (by simpa [cutR, cutAd] using hw)
  · have hik : i * k ≤ l.length * k := Nat.mul_le_mul_right k hi
    have hlc : l.length * k ≤ cap * k := Nat.mul_le_mul_right k hc
    have hcl : cur.toList.length = cur.size := rfl
    have hcut : cutR (.slice (some ⟨g, o, none⟩) l.length cap) 0 i = .slice (some ⟨g, o, none⟩) i cap := cutR_0
    by_cases hn : l.length - i = 0
    · have e1 : (execOp a.eval (⟨none, .call { callee := .builtin .clear, args := #[x], argTypes := #[t] }, rty, pos, af, gd⟩ : Oper)).run P w = .ok (.value (.tuple #[])) w := by
        have h2 : cutW (.slice (some ⟨g, o, none⟩) l.length cap) i l.length k = .slice (cutAd (some ⟨g, o, none⟩) i cap k) 0 (cap - i) := by simp only [cutW, hn]
        rw [h2] at h1
        cases hca : cutAd (some ⟨g, o, none⟩) i cap k <;> simp [execOp, resolve, invoke, builtin, h1, hca, Builtin.clear_, run_underlying ht]
      rw [e1, Oper.upon_value]
      obtain rfl : i = l.length := by omega
      refine h _ _ (ha.putNone _) ?_
      rw [List.take_length, hcut]; exact hw
    · have hci : ¬ cap = i := by omega
      have h2 : cutW (.slice (some ⟨g, o, none⟩) l.length cap) i l.length k = .slice (some ⟨g, o + i * k, none⟩) (l.length - i) (cap - i) := by
        simp only [cutW, cutAd, if_neg hci, Option.map_some, add_w]
      rw [h2] at h1
      obtain ⟨m, hm⟩ : ∃ m, l.length - i = m + 1 := ⟨l.length - i - 1, by omega⟩
      have hzl2 : (Builtin.zeroCells zc.toArray (l.length - i)).toList.length = (l.length - i) * k := by simp [Builtin.zeroCells, Value.cells, hzl]
      have hzo2 : ∀ u ∈ (Builtin.zeroCells zc.toArray (l.length - i)).toList, u.oneCell' = true := fun u hu => by
        simp only [Builtin.zeroCells, Value.cells, Array.toList_map, List.mem_map] at hu
        obtain ⟨q, _, rfl⟩ := hu
        have hq : q % zc.toArray.size < zc.toArray.size := Nat.mod_lt _ (by rw [List.size_toArray]; omega)
        rw [getElem!_pos zc.toArray _ hq]
        exact hzo _ (by simp)
      have hmk : (l.length - i) * k = l.length * k - i * k := Nat.sub_mul ..
      obtain ⟨w', h4, h5, h6⟩ := run_storeCells P g T' _ (o + i * k) 0 w cur.toList fr (by simpa using hg) (by simpa using hfr) hzo2 (by rw [hzl2]; omega)
      have e1 : (execOp a.eval (⟨none, .call { callee := .builtin .clear, args := #[x], argTypes := #[t] }, rty, pos, af, gd⟩ : Oper)).run P w = .ok (.value (.tuple #[])) w' := by
        rw [hm] at h1 h4
        simp [execOp, resolve, invoke, builtin, h1, Builtin.clear_, run_underlying ht, hz, hzc, h4]
      rw [e1, Oper.upon_value]
      rw [Nat.add_zero] at h5
      have hcutrow := row_cut (c := cur.toList) (vs := (Builtin.zeroCells zc.toArray (l.length - i)).toList) (d := cur.toList.drop (o + i * k + (Builtin.zeroCells zc.toArray (l.length - i)).toList.length)) (o := o) (j := i * k) (by omega)
      rw [hcut] at h
      refine h _ _ (ha.putNone _) (St.perm (St.turn (N := [ownA f k (.slice (some ⟨g, o, none⟩) i cap) (l.take i) T]) hw (h6.mono (fun q hq => by show some g = some q; rw [hq])) ⟨⟨flat_len hf, ?_⟩, trivial⟩ ⟨fun _ _ h => h, trivial⟩ ?_) perm_mid)
      · rw [hti]
        refine .inr ⟨g, o, cap, _, fr, T', rfl, h5, ?_, by omega, hcm, ?_, ?_⟩
        · have : (cur.toList.take (o + i * k) ++ (Builtin.zeroCells zc.toArray (l.length - i)).toList ++ cur.toList.drop (o + i * k + (Builtin.zeroCells zc.toArray (l.length - i)).toList.length)).toArray.size = cur.size := by simp only [List.size_toArray, List.length_append, List.length_take, List.length_drop, hzl2]; omega
          rw [this]; exact hfr
        · simp only [List.size_toArray, List.length_append, List.length_take, List.length_drop, hzl2]; omega
        · rw [hcutrow, ← flat_take hf hi, ← htk, List.take_take, Nat.min_eq_left hik]
      · intro q hq
        rcases hq with hq | hq
        · exact .inl hq
        · exact hq.elim
theorem a_clearCut {H1 H2 : List Res} {α : Type} {f : α → List Value} {l : List α} {i k : Nat} {T e : TypeId} {zc : List Value} (hx : ev L x = some (cutW v i l.length k)) (ht : P.underlying t = some (.slice e)) (hz : ∀ w, (zeroValue e).run P w = .ok (.agg zc.toArray) w) (hzl : zc.length = k) (hk0 : 0 < k) (hzo : ∀ u ∈ zc, u.oneCell' = true) (hf : ∀ a, (f a).length = k)
    (hH : H = H1 ++ ownA f k v l T :: H2) (hi : i ≤ l.length) (h : TK c K L (H1 ++ ownA f k (cutR v 0 i) (l.take i) T :: H2)) :
    TK c (fun a w => (⟨none, .call { callee := .builtin .clear, args := #[x], argTypes := #[t] }, rty, pos, af, gd⟩ : Oper).wp P a w K Q) L H := a_clearCutZ hx ht hz rfl hzl hk0 hzo hf hH hi h
theorem cutR_W {v : Value} {i n : Nat} : cutR v i n = cutW v i n 1 := by cases v <;> rfl
theorem ownM_A {α : Type} {f : α → Value} {v : Value} {l : List α} {T : TypeId} : ownM f v l T = ownA (fun a => [f a]) 1 v l T := by
  unfold ownA; rw [show l.flatMap (fun a => [f a]) = l.map f from (List.map_eq_flatMap (f := f) (l := l)).symm]
theorem a_clearM {H1 H2 : List Res} {α : Type} {f : α → Value} {l : List α} {z : α} {i : Nat} {T e : TypeId} (hx : ev L x = some (cutR v i l.length)) (ht : P.underlying t = some (.slice e)) (hz : ∀ w, (zeroValue e).run P w = .ok (f z) w) (hzc : (f z).cells = #[f z]) (hzo : (f z).oneCell' = true)
    (hH : H = H1 ++ ownM f v l T :: H2) (hi : i ≤ l.length) (h : TK c K L (H1 ++ ownM f (cutR v 0 i) (l.take i) T :: H2)) :
    TK c (fun a w => (⟨none, .call { callee := .builtin .clear, args := #[x], argTypes := #[t] }, rty, pos, af, gd⟩ : Oper).wp P a w K Q) L H := by
  rw [ownM_A] at hH h
  exact a_clearCutZ (zc := [f z]) (hx.trans (congrArg some (cutR_W (v := v)))) ht hz hzc rfl Nat.one_pos (fun u hu => by rw [List.mem_singleton.1 hu]; exact hzo) (fun _ => rfl) hH hi h
end
section
variable {P : Program} {n : Nat} {S : World → Prop} {L : Sl} {dst : Option Tmp} {rty : TypeId} {pos : String} {af : Array Edge} {gd : Option (Nat × Bool)}
  {t t' : TypeId} {x y z : Operand} {v : Value}
theorem y_cutW {k' : IntKind} {il : Int} {xl : Operand} {w0 : World} {N sz : Nat} {xs : List Value} (lo : Nat) (hx : ev L x = some v) (hl : ev L xl = some (.int k' il)) (hv : RdC w0 v N xs) (ht : sliB P t sz = true) (hm : lo ≤ N) (e2 : il = (lo : Int) := by rfl) :
    Y P n S L ⟨dst, .slice t x (some xl) none none, rty, pos, af, gd⟩ (cutW v lo N sz) := by
  obtain ⟨ad, hf, h2⟩ := hv.form
  have hx' := hx
  rw [hf] at hx'
  subst e2
  refine (y_cutSl hx' hl ht (by omega)).cast ?_
  rw [Int.toNat_natCast, hf]; rfl
end
theorem ro_ownC {c : Cx} {w : World} {H0 Hr : List Res} {v : Value} {n k : Nat} {xs : List Value} {e : TypeId} (hw : St c w (H0 ++ Hr)) (hq : own v n xs e k ∈ Hr) : Ro (Fs H0) w (rdC v n xs) :=
  ⟨own_rdC (hw.mem (r := own v n xs e k) (by simp [hq])), fun j hk h0 => (Dj_append.1 hw.dj).2.2 j h0 (Fs.of_mem hq (by
    rcases own_cells (hw.mem (r := own v n xs e k) (by simp [hq])) with ⟨_, _, h⟩ | ⟨g, o, cap, rfl, _⟩
    · exact (hk.1 h).elim
    · rw [← hk.2]; rfl))⟩
end Go.Proofs.YtnhpghhibcdklaaGreatDoor

set_option linter.unusedSimpArgs false
set_option linter.unusedVariables false
namespace Go.Proofs.YtnhpghhibcdklaaGreatDoor
open Go
structure Snp where
  seq : Int
  time : Int
  note : List UInt8
  root : List UInt8
  h : root.length = 32
deriving DecidableEq
def dSn : Snp := ⟨0, 0, [], List.replicate 32 0, rfl⟩
def snC (s : Snp) : List Value := [I s.seq, I s.time, Str s.note] ++ s.root.map B
theorem snC_len (s : Snp) : (snC s).length = 35 := by simp [snC, s.h]
theorem snC_all (s : Snp) : ((snC s).drop 0).take 35 = [I s.seq, I s.time, Str s.note] ++ s.root.map B := by
  rw [List.drop_zero, List.take_of_length_le (Nat.le_of_eq (snC_len s))]; rfl
structure Rec where
  kind : Int
  s : Snp
deriving DecidableEq
def dRec : Rec := ⟨0, dSn⟩
def rcC (r : Rec) : List Value := [I r.kind, I r.s.seq, I r.s.time, Str r.s.note] ++ r.s.root.map B
theorem rcC_len (r : Rec) : (rcC r).length = 36 := by simp [rcC, r.s.h]
theorem rcC_all (r : Rec) : ((rcC r).drop 0).take 36 = [I r.kind, I r.s.seq, I r.s.time, Str r.s.note] ++ r.s.root.map B := by
  rw [List.drop_zero, List.take_of_length_le (Nat.le_of_eq (rcC_len r))]; rfl
theorem snC_inj {a b : Snp} : [I a.seq, I a.time, Str a.note] ++ a.root.map B = [I b.seq, I b.time, Str b.note] ++ b.root.map B ↔ a = b := by
  refine ⟨fun h => ?_, fun h => by rw [h]⟩
  obtain ⟨sa, ta, na, ra, ha⟩ := a; obtain ⟨sb, tb, nb, rb, hb⟩ := b
  simp only [List.cons_append, List.nil_append, List.cons.injEq] at h
  obtain ⟨h1, h2, h3, h4⟩ := h
  have e4 := mapB_inj h4
  have e3 := str_inj h3
  have e1 : sa = sb := by simpa [I] using h1
  have e2 : ta = tb := by simpa [I] using h2
  subst e1; subst e2; subst e3; subst e4; rfl
def notS (z : Int) (s : Snp) : Bool := !decide (s.seq = z)
def stepR (out : List Snp) (r : Rec) : List Snp := if r.kind = 1 then out ++ [r.s] else if r.kind = 2 then out.filter (notS r.s.seq) else out
def foldR (l : List Rec) : List Snp := l.foldl stepR []
theorem take_snocL {α : Type} {l : List α} {d : α} {i : Nat} (h : i < l.length) : l.take (i + 1) = l.take i ++ [l.getD i d] := by
  rw [List.take_add_one, List.getElem?_eq_getElem h, List.getD_eq_getElem?_getD, List.getElem?_eq_getElem h]; rfl
theorem foldR_succ {l : List Rec} {i : Nat} (h : i < l.length) : foldR (l.take (i + 1)) = stepR (foldR (l.take i)) (l.getD i dRec) := by
  unfold foldR
  rw [take_snocL (d := dRec) h, List.foldl_append]; rfl
theorem foldR_len {l : List Rec} : (foldR l).length ≤ l.length := by
  have h : ∀ (l : List Rec) (out : List Snp), (l.foldl stepR out).length ≤ out.length + l.length := by
    intro l
    induction l with
    | nil => intro out; simp
    | cons r l ih =>
      intro out
      have h1 := ih (stepR out r)
      have h2 : (stepR out r).length ≤ out.length + 1 := by
        unfold stepR
        split
        · simp
        split
        · have := List.length_filter_le (notS r.s.seq) out; omega
        · omega
      rw [List.foldl_cons, List.length_cons]; omega
  have := h l []
  rw [List.length_nil, Nat.zero_add] at this
  exact this
theorem step_1 {out : List Snp} {r : Rec} (h : r.kind = 1) : stepR out r = out ++ [r.s] := by rw [stepR, if_pos h]
theorem step_2 {out : List Snp} {r : Rec} (h : r.kind = 2) : stepR out r = out.filter (notS r.s.seq) := by rw [stepR, if_neg (by omega), if_pos h]
theorem step_0 {out : List Snp} {r : Rec} (h1 : ¬ r.kind = 1) (h : ¬ r.kind = 2) : stepR out r = out := by rw [stepR, if_neg h1, if_neg h]
/-! ### taken away in place -/
theorem filt_none {l : List Snp} {z : Int} (h : ∀ j, j < l.length → ¬ (l.getD j dSn).seq = z) : l.filter (notS z) = l := List.filter_eq_self.2 (fun s hs => by
  obtain ⟨j, hj, rfl⟩ := List.mem_iff_getElem.1 hs
  have := h j hj
  rw [List.getD_eq_getElem?_getD, List.getElem?_eq_getElem hj] at this
  simpa [notS] using this)
theorem filt_init {l : List Snp} {z : Int} {i : Nat} (hi : i < l.length) (h : ∀ j, j < i → ¬ (l.getD j dSn).seq = z) (hz : (l.getD i dSn).seq = z) : l.take i = (l.take (i + 1)).filter (notS z) := by
  rw [take_snocL (d := dSn) hi, List.filter_append, filt_none (l := l.take i) (fun j hj => by
    have hji : j < i := by rw [List.length_take] at hj; omega
    have e : (l.take i).getD j dSn = l.getD j dSn := by rw [List.getD_eq_getElem?_getD, List.getD_eq_getElem?_getD, List.getElem?_take, if_pos hji]
    rw [e]; exact h j hji)]
  simp only [notS, List.filter_cons, List.filter_nil, decide_eq_true hz, Bool.not_true, Bool.false_eq_true, if_false, List.append_nil]
theorem filt_skip {l m : List Snp} {z : Int} {i j : Nat} (hj : j < l.length) (h : m.take i = (l.take j).filter (notS z)) (hz : (l.getD j dSn).seq = z) : m.take i = (l.take (j + 1)).filter (notS z) := by
  rw [take_snocL (d := dSn) hj, List.filter_append, ← h]
  simp only [notS, List.filter_cons, List.filter_nil, decide_eq_true hz, Bool.not_true, Bool.false_eq_true, if_false, List.append_nil]
theorem filt_keep {l m : List Snp} {z : Int} {i j : Nat} (hi : i < m.length) (hj : j < l.length) (h : m.take i = (l.take j).filter (notS z)) (hz : ¬ (l.getD j dSn).seq = z) : (m.set i (l.getD j dSn)).take (i + 1) = (l.take (j + 1)).filter (notS z) := by
  rw [take_snocL (d := dSn) (by simpa using hi), take_snocL (d := dSn) hj, List.filter_append, ← h]
  have e1 : (m.set i (l.getD j dSn)).take i = m.take i := by rw [List.take_set, List.set_eq_of_length_le (by rw [List.length_take]; omega)]
  have e2 : (m.set i (l.getD j dSn)).getD i dSn = l.getD j dSn := by rw [List.getD_eq_getElem?_getD, List.getElem?_set_self hi]; rfl
  rw [e1, e2]
  simp only [notS, List.filter_cons, List.filter_nil, decide_eq_false hz, Bool.not_false, if_true]
theorem set_drop {m : List Snp} {i j : Nat} {e : Snp} (h : i < j) : (m.set i e).drop j = m.drop j := by
  rw [List.drop_set, if_pos h]
theorem drop_get {l m : List Snp} {j : Nat} (h : m.drop j = l.drop j) : m.getD j dSn = l.getD j dSn := by
  have e : ∀ l : List Snp, l.getD j dSn = (l.drop j).getD 0 dSn := fun l => by rw [List.getD_eq_getElem?_getD, List.getD_eq_getElem?_getD, List.getElem?_drop, Nat.add_zero]
  rw [e, e l, h]
theorem drop_next {l m : List Snp} {j : Nat} (h : m.drop j = l.drop j) : m.drop (j + 1) = l.drop (j + 1) := by
  rw [← List.drop_drop, ← List.drop_drop, h]
def hasS (l : List Snp) (z : Int) : Prop := ∃ s ∈ l, s.seq = z
instance (l : List Snp) (z : Int) : Decidable (hasS l z) := by unfold hasS; infer_instance
def idxS (l : List Snp) (z : Int) (r : Int) : Prop := (r = -1 ∧ ∀ j, j < l.length → ¬ (l.getD j dSn).seq = z) ∨ ∃ i : Nat, r = (i : Int) ∧ i < l.length ∧ (l.getD i dSn).seq = z ∧ ∀ j, j < i → ¬ (l.getD j dSn).seq = z
theorem idx_has {l : List Snp} {z r : Int} (h : idxS l z r) : 0 ≤ r ↔ hasS l z := by
  rcases h with ⟨rfl, h⟩ | ⟨i, rfl, hi, hz, _⟩
  · refine ⟨fun h => absurd h (by omega), fun ⟨s, hs, e⟩ => ?_⟩
    obtain ⟨j, hj, rfl⟩ := List.mem_iff_getElem.1 hs
    have := h j hj
    rw [List.getD_eq_getElem?_getD, List.getElem?_eq_getElem hj] at this
    exact (this e).elim
  · refine ⟨fun _ => ⟨l.getD i dSn, ?_, hz⟩, fun _ => by omega⟩
    rw [List.getD_eq_getElem?_getD, List.getElem?_eq_getElem hi]
    exact List.getElem_mem hi
end Go.Proofs.YtnhpghhibcdklaaGreatDoor
namespace Go.Proofs.YtnhpghhibcdklaaGreatDoor
open Go Go.ChangeShapes Go.WideShapes Go.ChangeAt Go.RowKit
set_option maxRecDepth 100000
set_option linter.unusedVariables false
set_option linter.unusedSimpArgs false
instance : Inhabited Rec := ⟨dRec⟩
section
variable {H : Type} {enc : TypeId × Value → H} {W : World} {b0 : Nat} {sp : Nat → Bool} {held : Bool} {fuel : Nat} {cs : List Value} {x : DataW H × List MemPlace}
theorem op_rec (h : DataW.trod enc Tryz.prog W b0 sp held fuel 57 cs = some x) : ∃ r : Rec, cs = rcC r ∧ r.s.note.length < 9223372036854775808 := by
  have hl : cs.length = 36 := (op_len Tryz.underlying57 h).trans (by kernel_rfl)
  obtain ⟨n0, y0, h0⟩ := op_fldO Tryz.underlying57 h 0 3 0 1 rfl (by kernel_rfl)
  obtain ⟨n1, y1, h1⟩ := op_fldO Tryz.underlying57 h 1 3 1 1 rfl (by kernel_rfl)
  obtain ⟨n2, y2, h2⟩ := op_fldO Tryz.underlying57 h 2 3 2 1 rfl (by kernel_rfl)
  obtain ⟨n3, y3, h3⟩ := op_fldO Tryz.underlying57 h 3 9 3 1 rfl (by kernel_rfl)
  obtain ⟨n4, y4, h4⟩ := op_fldO Tryz.underlying57 h 4 29 4 32 rfl (by kernel_rfl)
  obtain ⟨k, e0, _⟩ := op_i64 Tryz.underlying3 h0
  obtain ⟨q, e1, _⟩ := op_i64 Tryz.underlying3 h1
  obtain ⟨t, e2, _⟩ := op_i64 Tryz.underlying3 h2
  obtain ⟨nt, e3, hn⟩ := op_str Tryz.underlying9 h3
  obtain ⟨rt, rt32, e4⟩ := op_arr8 Tryz.underlying29 Tryz.underlying5 (by kernel_rfl) (by kernel_rfl) h4
  simp only [maxLen] at hn
  refine ⟨⟨k, ⟨q, t, nt, rt, rt32⟩⟩, ?_, by dsimp only; omega⟩
  have c4 : cs.drop 4 = rt.map B := (cut_end hl).trans e4
  have c3 : cs.drop 3 = Str nt :: rt.map B := by rw [← cut_cat (show 3 + 1 = 4 from rfl), e3, c4]; rfl
  have c2 : cs.drop 2 = I t :: Str nt :: rt.map B := by rw [← cut_cat (show 2 + 1 = 3 from rfl), e2, c3]; rfl
  have c1 : cs.drop 1 = I q :: I t :: Str nt :: rt.map B := by rw [← cut_cat (show 1 + 1 = 2 from rfl), e1, c2]; rfl
  have c0 := cut_cat (cs := cs) (show 0 + 1 = 1 from rfl)
  rw [e0, c1, List.drop_zero] at c0
  exact c0.symm
end
end Go.Proofs.YtnhpghhibcdklaaGreatDoor
namespace Go.Proofs.YtnhpghhibcdklaaGreatDoor
open Go Go.ChangeShapes Go.WideShapes Go.ChangeAt Go.RowKit
set_option maxRecDepth 100000
set_option linter.unusedVariables false
set_option linter.unusedSimpArgs false
/-- one cell each -/
theorem rd_one {α : Type} {f : α → Value} {W : World} {v : Value} {l : List α} (h : RdC W v l.length (l.flatMap (fun a => [f a]))) : RdS W v (l.map f) := by
  have e : l.flatMap (fun a => [f a]) = l.map f := (List.map_eq_flatMap (f := f) (l := l)).symm
  rw [e] at h
  rcases h with ⟨rfl, h5, h6⟩ | ⟨ad, cap, rfl, hc, hr⟩
  · exact .inl ⟨rfl, h6⟩
  · exact .inr ⟨ad, cap, by simp, by simpa using hc, hr⟩
section
variable {H : Type} {enc : TypeId × Value → H} {W : World} {b0 : Nat} {sp : Nat → Bool} {held : Bool} {fuel : Nat} {cs : List Value} {x : DataW H × List MemPlace}
theorem op_ints (h : DataW.trod enc Tryz.prog W b0 sp held fuel 73 cs = some x) : ∃ (v : Value) (l : List Int), cs = [v] ∧ RdS W v (l.map I) ∧ l.length < 9223372036854775808 := by
  obtain ⟨v, l, h1, h2, _, h3⟩ := op_wide (f := fun k : Int => [I k]) (k := 1) (p := fun _ => True) Tryz.underlying73 (by kernel_rfl) (fun _ => rfl) (by decide) (fun n cs' y hy => by obtain ⟨k, e, _⟩ := op_i64 Tryz.underlying3 hy; exact ⟨k, e, trivial⟩) h
  simp only [maxLen] at h3
  exact ⟨v, l, h1, rd_one h2, by omega⟩
end
end Go.Proofs.YtnhpghhibcdklaaGreatDoor
namespace Go.Proofs.YtnhpghhibcdklaaGreatDoor
open Go Go.ChangeShapes Go.WideShapes Go.ChangeAt Go.RowKit
set_option maxRecDepth 100000
set_option linter.unusedVariables false
set_option linter.unusedSimpArgs false
theorem four_cells {cs : Array Value} {a b c d : Value} (hl : cs.toList.length = 4) (h0 : (cs.toList.drop 0).take 1 = [a]) (h1 : (cs.toList.drop 1).take 1 = [b]) (h2 : (cs.toList.drop 2).take 1 = [c]) (h3 : (cs.toList.drop 3).take 1 = [d]) : Value.agg cs = .agg [a, b, c, d].toArray := by
  congr 1
  rw [← Array.toArray_toList (xs := cs)]
  congr 1
  match hcs : cs.toList, hl with
  | [c0, c1, c2, c3], _ =>
    rw [hcs] at h0 h1 h2 h3
    simp at h0 h1 h2 h3
    rw [h0, h1, h2, h3]
theorem op_recs {H : Type} {enc : TypeId × Value → H} {W : World} {b0 : Nat} {sp : Nat → Bool} {held : Bool} {fuel : Nat} {cs : List Value} {x : DataW H × List MemPlace} (h : DataW.trod enc Tryz.prog W b0 sp held fuel 22 cs = some x) : ∃ (v : Value) (l : List Rec), cs = [v] ∧ RdC W v l.length (l.flatMap rcC) ∧ l.length < 9223372036854775808 ∧ ∀ r ∈ l, r.s.note.length < 9223372036854775808 := by
  obtain ⟨v, l, e0, hr0, hp0, hm0⟩ := op_wide (f := rcC) (p := fun r => r.s.note.length < 9223372036854775808) Tryz.underlying22 (by kernel_rfl) rcC_len (by decide) (fun n cs' y hy => op_rec hy) h
  simp only [maxLen] at hm0
  exact ⟨v, l, e0, hr0, by omega, hp0⟩
theorem open_night {H : Type} {enc : TypeId × Value → H} {W : World} {r : Reach} {b0 : Nat} {v : Value} {d : DataW H} {qs : List MemPlace} (hval : Value.okWide Tryz.prog W r b0 75 v) (hd : DataW.Trod enc Tryz.prog W 0 (fun _ => true) true 75 v d qs) :
    ∃ (fv mv pv : Value) (fr mr : List Rec) (nn : Int) (pl : List Int), v = .agg [fv, mv, I nn, pv].toArray ∧ RdC W fv fr.length (fr.flatMap rcC) ∧ RdC W mv mr.length (mr.flatMap rcC) ∧ RdS W pv (pl.map I) ∧ fr.length < 9223372036854775808 ∧ mr.length < 9223372036854775808 ∧ (∀ r ∈ fr, r.s.note.length < 9223372036854775808) ∧ (∀ r ∈ mr, r.s.note.length < 9223372036854775808) ∧ pl.length < 9223372036854775808 := by
  obtain ⟨cs, rfl, hsz⟩ := okWide_struct Tryz.underlying75 hval
  obtain ⟨fuel, hf⟩ := hd
  have hl := op_len Tryz.underlying75 hf
  have hl' : cs.toList.length = 4 := by rw [show (Value.agg cs).cells.toList = cs.toList from rfl] at hl; rw [hl]; kernel_rfl
  obtain ⟨n0, y0, h0⟩ := op_fldO Tryz.underlying75 hf 0 22 0 1 rfl (by kernel_rfl)
  obtain ⟨n1, y1, h1⟩ := op_fldO Tryz.underlying75 hf 1 22 1 1 rfl (by kernel_rfl)
  obtain ⟨n2, y2, h2⟩ := op_fldO Tryz.underlying75 hf 2 3 2 1 rfl (by kernel_rfl)
  obtain ⟨n3, y3, h3⟩ := op_fldO Tryz.underlying75 hf 3 73 3 1 rfl (by kernel_rfl)
  obtain ⟨fv, fr, e0, hr0, hm0, hn0⟩ := op_recs h0
  obtain ⟨mv, mr, e1, hr1, hm1, hn1⟩ := op_recs h1
  obtain ⟨nn, e2, _⟩ := op_i64 Tryz.underlying3 h2
  obtain ⟨pv, pl, e3, hr3, hm3⟩ := op_ints h3
  exact ⟨fv, mv, pv, fr, mr, nn, pl, four_cells hl' e0 e1 e2 e3, hr0, hr1, hr3, hm0, hm1, hn0, hn1, hm3⟩
end Go.Proofs.YtnhpghhibcdklaaGreatDoor
set_option linter.unusedSimpArgs false
set_option linter.unusedVariables false
namespace Go.Proofs.YtnhpghhibcdklaaGreatDoor
open Go Go.RowKit
set_option maxRecDepth 100000
attribute [local irreducible] strL xz keyedL sumL
theorem clonen_spec {w : World} : Spec Tryz.prog 65 [.slice none 0 0] w [] (fun _ : Value => True) (fun vo => vo) (fun vo => [ownB vo [] 5]) := by
  exact spec_of (n := 8) Tryz.func65 rfl rfl trivial trivial rfl <| s_r <| q_a rfl rfl <| s_n <| tk_seq <| s_r <| q_m rfl rfl <| s_q rfl (y_eqSn Tryz.underlying64 rfl rfl) <| s_n <| tk_cond1 rfl <| s_r <| q_a rfl rfl <| s_n <| tk_retc <| tk_then_ret <| tk_ownM0 (f := B) 5 <| tk_ret (.slice none 0 0) (trivial) (.inl rfl) (r1 rfl rfl) (List.Sublist.refl _)
theorem clones_spec {l : List UInt8} {ad : Addr} {m cp : Nat} {w : World} (hv : Ro (Fs []) w (rdB (.slice (some ad) m cp) l)) (hb : l.length < 70368744177664) :
    Spec Tryz.prog 65 [.slice (some ad) m cp] w [] (fun _ : Value => True) (fun vo => vo) (fun vo => [ownB vo l 5]) := by
  exact spec_of (n := 8) Tryz.func65 rfl rfl trivial trivial rfl <| s_r <| q_a rfl rfl <| s_n <| tk_seq <| s_r <| q_m rfl rfl <| s_q rfl (y_eqSs Tryz.underlying64 rfl rfl) <| s_n <| tk_cond0 rfl <| tk_skip <| tk_then <| s_r <| tk_act rfl <| a_slit0 EL64 rfl fun v5 => q_m rfl rfl <| tk_act rfl <| a_appM (H1 := []) (f := B) (l := []) (m := l) rfl rfl EL64 rfl rfl (fun w hw => Ro.rd hv hw) (fun _ => rfl) ⟨lenP, lenP⟩ fun v7 => tk_own1 (.head _) fun hfv7 => q_a rfl rfl <| s_n <| tk_retc <| tk_ret (v7) (trivial) (.inl rfl) (r1 rfl rfl) (List.Sublist.refl _)
theorem clone_spec {l : List UInt8} {v : Value} {w : World} (hv : Ro (Fs []) w (rdB v l)) (hb : l.length < 70368744177664) :
    Spec Tryz.prog 65 [v] w [] (fun _ : Value => True) (fun vo => vo) (fun vo => [ownB vo l 5]) := by
  rcases hv.1 with ⟨rfl, h0⟩ | ⟨ad, cp, rfl, hc, hr⟩
  · obtain rfl : l = [] := List.map_eq_nil_iff.1 h0
    exact clonen_spec
  · exact clones_spec hv hb
end Go.Proofs.YtnhpghhibcdklaaGreatDoor
set_option linter.unusedSimpArgs false
set_option linter.unusedVariables false
namespace Go.Proofs.YtnhpghhibcdklaaGreatDoor
open Go Go.RowKit
set_option maxRecDepth 100000
attribute [local irreducible] sumL tapeL bej be8
theorem more_spec {tb c : Nat} {vb vl : Value} {b l : List UInt8} {w : World} (hlb : b.length < 1099511627776 ∧ l.length < 1099511627776) (hcn : c < 9223372036854775808) (hg : Ro (Fs [cel tb [vb, .int .u64 (c : Int), vl] 224, ownB vb b 5, ownB vl l 5]) w glob)
    (hh : Pre w [cel tb [vb, .int .u64 (c : Int), vl] 224, ownB vb b 5, ownB vl l 5]) :
    Spec Tryz.prog 263 [PT tb] w [cel tb [vb, .int .u64 (c : Int), vl] 224, ownB vb b 5, ownB vl l 5] (fun _ : Value => True) (fun _ => .tuple #[])
      (fun vo => [cel tb [vb, .int .u64 ((c + 1 : Nat) : Int), vo] 224, ownB vb b 5, ownB vo (l ++ sumL (b ++ be8 c)) 5]) := by
  refine spec_of (n := 42) Tryz.func263 rfl rfl hh.1 hh.2 rfl ?_
  have hb8 : (be8 c).length = 8 := be8_len
  refine tk_own1 (mm 1 rfl) fun hfb => tk_own1 (mm 2 rfl) fun hfl => s_r <| q_a rfl rfl <| s_n <| tk_seq <| s_r <| q_a rfl rfl <| s_n <| tk_block <| tk_ownM0 (f := B) 5 <| tk_R (H1 := []) rfl (show ownB (.slice none 0 0) ([] : List UInt8) 5 = ownB (.slice none 0 0) (bej c 0) 5 from ownM_cast bej_0.symm) <| tk_loop (X := Nat × Value) (fun (j, vo) => j ≤ 8) (fun (j, vo) => [(0, PT tb), (2, vo), (3, I (56 - 8 * (j : Int)))]) (fun (j, vo) => [ownB vo (bej c j) 5, cel tb ([vb, .int .u64 ((c : Nat) : Int), vl]) 224, ownB vb b 5, ownB vl l 5]) (fun (j, vo) => 8 - j) ((0, .slice none 0 0)) (Nat.zero_le _) sB ((List.Sublist.refl _)) ?_
  rintro ⟨j, vo⟩ hI
  try dsimp only at hI ⊢
  have hlen : (bej c j).length = j := bej_len
  refine tk_own1 (.head _) fun hfo => tk_seq <| s_r <| q_m rfl rfl <| s_q rfl (y_geq rfl rfl) <| s_n <| tk_condP rfl (fun ht6 => ?_) (fun ht6 => ?_)
  · refine tk_skip <| tk_then <| tk_seq <| tk_block <| tk_region <| tk_re 3 (I (56 - 8 * (j : Int))) (I ((56 - 8 * j : Nat) : Int)) rfl (congrArg I oM) <| q_m rfl rfl <| q_m rfl rfl <| s_q rfl (y_nilCheck rfl) <| s_q rfl (y_fldN (o := 0) 1 rfl kR) <| s_q rfl (y_load rfl rfl (hc (o := 1) (mm 1 rfl) (rfl))) <| q_m rfl rfl <| s_q rfl (y_shrN (a := c) (m := 56 - 8 * j) rfl rfl (by simp [IntKind.bits]; omega)) <| s_q rfl (y_convi8 (m := c / 2 ^ (56 - 8 * j)) rfl rfl rfl) <| tk_act rfl <| a_slitN (vs := [B (UInt8.ofNat (c / 2 ^ (56 - 8 * j)))]) rfl (List.forall_mem_cons.2 ⟨rfl, (fun _ h => nomatch h)⟩) (EL64) rfl rfl dC fun b17 => tk_act rfl <| a_appM (H1 := [_]) (f := B) (l := bej c j) (m := [UInt8.ofNat (c / 2 ^ (56 - 8 * j))]) rfl rfl EL64 rfl rfl (fun w hw => cel_rdE (o := 0) (m := 1) (cp := 1) (vs := [UInt8.ofNat (c / 2 ^ (56 - 8 * j))].map B) (hw.mem (.head _)) (rfl) lQ lenP) (fun _ => rfl) ⟨lenP, lenP⟩ fun v18 => tk_own1 (mm 1 rfl) fun hfv18 => q_a rfl rfl <| tk_nil <| tk_in_normal <| tk_then <| tk_region ?_; exact tk_re 3 (I ((56 - 8 * j : Nat) : Int)) (I (56 - 8 * (j : Int))) rfl (congrArg I oM) <| q_m rfl rfl <| s_q rfl (y_subI rfl rfl oM) <| q_a rfl rfl <| tk_nil <| tk_re 3 (I ((56 - 8 * (j : Int)) - (8 : Int))) (I (56 - 8 * ((j + 1 : Nat) : Int))) rfl (congrArg I oM) <| tk_R (H1 := [_]) rfl (show ownB v18 ((bej c j) ++ [UInt8.ofNat (c / 2 ^ (56 - 8 * j))]) 5 = ownB v18 (bej c (j + 1)) 5 from ownM_cast bej_snoc) <| tk_again ((j + 1, v18)) (by dsimp only; omega) (by dsimp only; omega) sB (.cons _ (List.Sublist.refl _))
  · refine tk_R (H1 := []) rfl (show ownB vo (bej c j) 5 = ownB vo (be8 c) 5 from ownM_cast (by rw [show j = 8 by omega, be8_def])) <| tk_own1 (.head _) fun hfo => tk_exit <| tk_then_exit <| tk_then_exit <| tk_in_hit <| tk_then <| s_r <| q_m rfl rfl <| s_q rfl (y_nilCheck rfl) <| s_q rfl (y_fld0 (o := 0) rfl kR) <| s_q rfl (y_load rfl rfl (hc (o := 0) (mm 1 rfl) (rfl))) <| q_m rfl rfl <| tk_act rfl <| a_slitN (vs := [vb, vo]) rfl (List.forall_mem_cons.2 ⟨(RdS.one hfb.choose_spec), (List.forall_mem_cons.2 ⟨(RdS.one hfo.choose_spec), (fun _ h => nomatch h)⟩)⟩) (EL208) rfl rfl dC fun b24 => tk_act rfl <| a_callv [] _ rfl kR rfl (fun w' hw' => of_spec (ps := [(vb, b), (vo, be8 c)]) (L := b ++ (be8 c)) (Ro.cel (vs := [vb, vo]) hw' (.head _) rS rfl dC) (List.forall_mem_cons.2 ⟨(Ro.own (H0 := []) hw' (mm 3 rfl)), (List.forall_mem_cons.2 ⟨(Ro.own (H0 := []) hw' (mm 1 rfl)), (fun _ h => nomatch h)⟩)⟩) sI lenP lenP (hg.call hw')) rfl fun _ _ => tk_act rfl <| a_allocL (cs := (List.replicate 32 0).map B) kR rfl fun b4 => tk_act rfl <| a_storeW (H1 := []) (vs := (sumL (b ++ (be8 c))).map B) 32 rfl rfl kR rfl ⟨lenP, lenP⟩ oneB <| s_n <| tk_seq <| tk_drawH [cel b4 ((sumL (b ++ (be8 c))).map B) 28, cel b24 ([vb, vo]) 64, ownB vo (be8 c) 5, cel tb ([vb, .int .u64 ((c : Nat) : Int), vl]) 224, ownB vb b 5] [9] kR ?_; refine s_x 0 rfl (y_move rfl) <| s_x 1 rfl (y_move rfl) <| s_x 2 rfl (y_nilCheck rfl) <| s_x 3 rfl (y_fldN (o := 0) 2 rfl kR) <| s_l 4 rfl (fun _ h => kS [0, 0, 0, 0, 0] rfl h) (y_load rfl rfl (hc (o := 2) (mm 3 rfl) (rfl))) <| s_x 5 rfl (y_cutA (m := 32) (sz := 1) rfl kR) <| tx_a 6 rfl kR rfl <| a_appM (H1 := [_, _, _, _, _]) (f := B) (l := l) (m := sumL (b ++ (be8 c))) rfl rfl EL64 rfl rfl (fun w hw => cel_rdE (o := 0) (m := 32) (cp := 32) (vs := (sumL (b ++ (be8 c))).map B) (hw.mem (.head _)) (dsW) lQ lenP) (fun _ => rfl) ⟨lenP, lenP⟩ fun v32 => tk_own1 (mm 5 rfl) fun hfv32 => tk_S (fun _ h => kS [0, 0, 0, 0, 0] rfl h) <| tk_own1 (mm 5 rfl) fun hf32 => s_x 7 rfl (y_nilCheck rfl) <| s_x 8 rfl (y_fldN (o := 0) 2 rfl kR) <| tx_x 9 rfl kR rfl rfl <| a_storeE (H1 := [_, _, _]) (o := 2) (v := v32) (cs' := [vb, .int .u64 ((c : Nat) : Int), v32]) rfl rfl kR (RdS.one hf32.choose_spec) rfl sW (rfl) <| tx_done kR <| tk_then <| tk_region <| q_m rfl rfl <| s_q rfl (y_nilCheck rfl) <| s_q rfl (y_fldN (o := 0) 1 rfl kR) <| s_q rfl (y_load rfl rfl (hc (o := 1) (mm 3 rfl) (rfl))) <| s_q rfl (y_addU (a := c) (b := 1) rfl rfl oM) <| s_q rfl (y_nilCheck rfl) ?_; exact s_q rfl (y_fldN (o := 0) 1 rfl kR) <| tk_act rfl <| a_storeE (H1 := [_, _, _]) (o := 1) (v := .int .u64 ((c + 1 : Nat) : Int)) (cs' := [vb, .int .u64 ((c + 1 : Nat) : Int), v32]) rfl rfl kR rfl rfl sW (rfl) <| tk_nil <| tk_ret (v32) (trivial) (.inr rfl) (r0 rfl) (.cons _ (.cons _ (.cons _ (List.Sublist.refl _))))
end Go.Proofs.YtnhpghhibcdklaaGreatDoor
set_option linter.unusedSimpArgs false
set_option linter.unusedVariables false
namespace Go.Proofs.YtnhpghhibcdklaaGreatDoor
open Go Go.RowKit
set_option maxRecDepth 100000
attribute [local irreducible] sumL tapeL bej be8
theorem next_spec {tb c p n : Nat} {vb vl : Value} {b : List UInt8} {w : World} (hI0 : p ≤ 32 * c ∧ 32 * c < p + 32) (hn : 1 ≤ n ∧ n ≤ 1048576) (hp : p < 1000000000000) (hlb : b.length < 1099511627776) (hg : Ro (Fs [cel tb [vb, .int .u64 (c : Int), vl] 224, ownB vb b 5, ownB vl ((tapeL b c).drop p) 5]) w glob)
    (hh : Pre w [cel tb [vb, .int .u64 (c : Int), vl] 224, ownB vb b 5, ownB vl ((tapeL b c).drop p) 5]) :
    Spec Tryz.prog 190 [PT tb, I (n : Int)] w [cel tb [vb, .int .u64 (c : Int), vl] 224, ownB vb b 5, ownB vl ((tapeL b c).drop p) 5] (fun x : Nat × Value × Value => p + n ≤ 32 * x.1 ∧ 32 * x.1 < p + n + 32) (fun x => x.2.1)
      (fun x => [cel tb [vb, .int .u64 (x.1 : Int), x.2.2] 224, ownB vb b 5, ownB x.2.2 ((tapeL b x.1).drop (p + n)) 5, ownB x.2.1 (tapeN b p n) 5]) := by
  refine spec_of (n := 40) Tryz.func190 rfl rfl hh.1 hh.2 rfl <| tk_own1 (mm 1 rfl) fun hfb => tk_own1 (mm 2 rfl) fun hfl => s_r <| q_a rfl rfl <| s_n <| s_r <| q_m rfl rfl <| tk_qe (IN n) rfl rfl rfl (y_minN (a := n) (b := 1048576) rfl rfl) (by congr 2; omega) <| q_a rfl rfl <| s_n <| tk_seq <| s_r <| q_m rfl rfl <| s_q rfl (y_pnil rfl rfl rfl) <| q_m rfl rfl <| s_g rfl (y_move rfl) <| tk_gqe (.bool false) rfl rfl rfl (y_lss rfl rfl) (bool_f oM) <| s_q rfl (y_pick0 rfl rfl) <| s_n <| tk_cond0 rfl <| tk_skip <| tk_then <| tk_seq ?_; refine tk_block <| tk_loop (X := Nat × Value) (fun (c2, vl2) => p ≤ 32 * c2 ∧ 32 * c2 < p + n + 32) (fun (c2, vl2) => [(0, PT tb), (1, IN n), (4, .slice none 0 0)]) (fun (c2, vl2) => [cel tb ([vb, .int .u64 ((c2 : Nat) : Int), vl2]) 224, ownB vb b 5, ownB vl2 ((tapeL b c2).drop p) 5]) (fun (c2, vl2) => p + n + 32 - 32 * c2) ((c, vl)) (⟨by omega, by omega⟩) sB ((List.Sublist.refl _)) ?_
  rintro ⟨c2, vl2⟩ hI
  try dsimp only at hI ⊢
  have hlen : ((tapeL b c2).drop p).length = 32 * c2 - p := by simp
  refine tk_own1 (mm 2 rfl) fun hfl2 => tk_seq <| s_r <| q_m rfl rfl <| s_q rfl (y_nilCheck rfl) <| s_q rfl (y_fldN (o := 0) 2 rfl kR) <| s_q rfl (y_load rfl rfl (hc (o := 2) (.head _) (rfl))) <| s_q rfl (y_lenRN (n' := ((tapeL b c2).drop p).length) rfl hfl2.choose_spec rfl (by first | rfl | (rw [List.length_map]; omega) | simp)) <| q_m rfl rfl <| s_q rfl (y_lss rfl rfl) <| s_n <| tk_condP rfl (fun ht20 => ?_) (fun ht20 => ?_)
  · exact tk_skip <| tk_then <| tk_block <| tk_region <| q_m rfl rfl <| tk_act rfl <| a_callv [] _ rfl kR rfl (fun w' hw' => more_spec (tb := tb) (c := c2) (vb := vb) (vl := vl2) (b := b) (l := (tapeL b c2).drop p) ⟨lenP, lenP⟩ lenP (hg.call hw') (St.pre hw')) rfl fun v22 _ => tk_nil <| tk_in_normal <| tk_R (H1 := [_, _]) rfl (show ownB v22 (((tapeL b c2).drop p) ++ sumL (b ++ be8 c2)) 5 = ownB v22 ((tapeL b (c2 + 1)).drop p) 5 from ownM_cast (tape_more oM)) <| tk_again ((c2 + 1, v22)) (⟨by dsimp only; omega, by dsimp only; omega⟩) (by dsimp only; omega) sB (List.Sublist.refl _)
  · refine tk_exit <| tk_then_exit <| tk_then_exit <| tk_in_hit <| tk_then <| s_r <| q_m rfl rfl <| s_q rfl (y_nilCheck rfl) <| s_q rfl (y_fldN (o := 0) 2 rfl kR) <| s_q rfl (y_load rfl rfl (hc (o := 2) (.head _) (rfl))) <| q_m rfl rfl <| s_q rfl (y_cutRBh (l := (tapeL b c2).drop p) n rfl rfl hfl2.choose_spec kR lenP rfl) <| tk_act rfl <| a_callv [] _ rfl kR rfl (fun w' hw' => clone_spec (l := ((tapeL b c2).drop p).take n) (Ro.cutBh (Ro.own (H0 := []) hw' (mm 2 rfl)) (hi := n) lenP) lenP) rfl fun v29 _ => q_a rfl rfl <| s_n <| s_r <| q_m rfl rfl <| q_m rfl rfl <| s_q rfl (y_nilCheck rfl) <| s_q rfl (y_fldN (o := 0) 2 rfl kR) <| s_q rfl (y_load rfl rfl (hc (o := 2) (mm 1 rfl) (rfl))) <| q_m rfl rfl <| s_q rfl (y_cutRBl (l := (tapeL b c2).drop p) n rfl rfl hfl2.choose_spec kR lenP rfl) ?_; exact s_q rfl (y_nilCheck rfl) <| s_q rfl (y_fldN (o := 0) 2 rfl kR) <| tk_act rfl <| a_storeE (H1 := [_]) (o := 2) (v := cutR vl2 n (((tapeL b c2).drop p).length)) (cs' := [vb, .int .u64 ((c2 : Nat) : Int), cutR vl2 n (((tapeL b c2).drop p).length)]) rfl rfl kR (RdS.one (RdS.cutBl hfl2.choose_spec (lo := n) lenP)) rfl sW (rfl) <| s_n <| s_r <| q_m rfl rfl <| q_a rfl rfl <| s_n <| tk_retc <| tk_ownCut (H1 := [_, _, _]) n rfl sO <| tk_R (H1 := []) rfl (show ownB v29 (((tapeL b c2).drop p).take n) 5 = ownB v29 (tapeN b p n) 5 from ownM_cast (tapeN_eq oM)) <| tk_R (H1 := [_, _, _]) rfl (show ownB (cutR vl2 n (((tapeL b c2).drop p).length)) (((tapeL b c2).drop p).drop n) 5 = ownB ((cutR vl2 n ((tapeL b c2).drop p).length)) ((tapeL b c2).drop (p + n)) 5 from ownM_cast (List.drop_drop ..)) <| tk_ps [3, 3, 3] rfl <| tk_ret ((c2, v29, cutR vl2 n ((tapeL b c2).drop p).length)) (⟨by omega, by omega⟩) (.inl rfl) (r1 rfl rfl) (List.Sublist.refl _)
end Go.Proofs.YtnhpghhibcdklaaGreatDoor
set_option linter.unusedSimpArgs false
set_option linter.unusedVariables false
namespace Go.Proofs.YtnhpghhibcdklaaGreatDoor
open Go Go.RowKit
set_option maxRecDepth 100000
attribute [local irreducible] sumL tapeL bej be8 tapeN
theorem nonce_spec {tb c p : Nat} {vb vl : Value} {b : List UInt8} {w : World} (hI0 : p ≤ 32 * c ∧ 32 * c < p + 32) (hp : p < 1000000000000) (hlb : b.length < 1099511627776) (hg : Ro (Fs [cel tb [vb, .int .u64 (c : Int), vl] 224, ownB vb b 5, ownB vl ((tapeL b c).drop p) 5]) w glob)
    (hh : Pre w [cel tb [vb, .int .u64 (c : Int), vl] 224, ownB vb b 5, ownB vl ((tapeL b c).drop p) 5]) :
    Spec Tryz.prog 104 [PT tb] w [cel tb [vb, .int .u64 (c : Int), vl] 224, ownB vb b 5, ownB vl ((tapeL b c).drop p) 5] (fun x : Nat × Value => p + 16 ≤ 32 * x.1 ∧ 32 * x.1 < p + 16 + 32) (fun _ => Ag (tapeN b p 16))
      (fun x => [cel tb [vb, .int .u64 (x.1 : Int), x.2] 224, ownB vb b 5, ownB x.2 ((tapeL b x.1).drop (p + 16)) 5]) := by
  refine spec_of (n := 10) Tryz.func104 rfl rfl hh.1 hh.2 rfl <| tk_own1 (mm 1 rfl) fun hfb => tk_own1 (mm 2 rfl) fun hfl => s_r <| tk_act rfl <| a_allocL (cs := (List.replicate 16 0).map B) kR rfl fun b2 => s_n <| tk_seq <| s_r <| q_m rfl rfl <| s_q rfl (y_pnil rfl rfl rfl) <| s_n <| tk_cond0 rfl <| tk_skip <| tk_then <| s_r <| q_m rfl rfl <| tk_act rfl <| tk_ps [3, 3, 3] rfl <| a_callv [] _ rfl kR rfl (fun w' hw' => next_spec (tb := tb) (c := c) (p := p) (n := 16) (vb := vb) (vl := vl) (b := b) ⟨lenP, lenP⟩ ⟨lenP, lenP⟩ lenP lenP (hg.call hw') (St.pre hw')) rfl fun ⟨c7, v7, vl7⟩ hx7 => tk_own1 (mm 3 rfl) fun hf7 => s_q rfl (y_s2aR (l := tapeN b p 16) rfl rfl hf7.choose_spec lenP) <| s_q rfl (y_loadA 16 rfl kR lenP (fun w hw => rd_take (l := tapeN b p 16) (m := 16) ((fun w hw => own_rdS (hw.mem (mm 3 rfl))) w hw) lenP)) <| tk_re 9 (.agg (((tapeN b p 16).take 16).map B).toArray) (.agg ((tapeN b p 16).map B).toArray) rfl (by rw [List.take_of_length_le sI]) ?_; exact tk_act rfl <| a_storeW (H1 := [_, _, _, _]) (vs := (tapeN b p 16).map B) 16 rfl rfl kR rfl ⟨lenP, lenP⟩ oneB <| s_n <| tk_retc <| tk_ret ((c7, vl7)) (hx7) (.inl rfl) (rc (vs := (tapeN b p 16).map B) rfl rfl (by simp; kernel_rfl) (hcw (mm 4 rfl))) (.cons_cons _ (.cons_cons _ (.cons_cons _ (List.nil_sublist _))))
theorem wind_spec {v : Value} {b : List UInt8} {w : World} (hv : Ro (Fs []) w (rdB v b)) (hb : b.length < 1099511627776) :
    Spec Tryz.prog 62 [v] w [] (fun _ : Nat × Value => True) (fun x => PT x.1)
      (fun x => [cel x.1 [x.2, .int .u64 ((0 : Nat) : Int), .slice none 0 0] 224, ownB x.2 b 5]) := by
  refine spec_of (n := 7) Tryz.func62 rfl rfl trivial trivial rfl <| s_r <| q_a rfl rfl <| s_n <| s_r <| q_m rfl rfl <| tk_act rfl <| a_callv [] _ rfl kR rfl (fun w' hw' => clone_spec (l := b) (Ro.call (H0 := []) hv hw') lenP) rfl fun v4 _ => tk_own1 (.head _) fun hf4 => ?_
  have hc4 := hf4.choose_spec.cells
  simp only [Value.cells] at hc4
  exact s_q rfl (y_build (v := .agg ([v4, .int .u64 0, .slice none 0 0]).toArray) (vs := [(0, v4)]) rfl (run_build (zs := [Value.slice none 0 0, .int .u64 0, .slice none 0 0]) (pl := [(0, 1), (1, 1), (2, 1)]) Tryz.underlying224 (fun _ => kR) (fun _ => kR) (by simp [fillL, Value.cells, hc4]))) <| tk_act rfl <| a_boxL (cs := [v4, .int .u64 0, .slice none 0 0]) rfl rfl fun b6 => q_a rfl rfl <| s_n <| tk_retc <| tk_ret ((b6, v4)) (trivial) (.inl rfl) (r1 rfl rfl) (List.Sublist.refl _)
end Go.Proofs.YtnhpghhibcdklaaGreatDoor
set_option linter.unusedSimpArgs false
set_option linter.unusedVariables false
namespace Go.Proofs.YtnhpghhibcdklaaGreatDoor
open Go Go.RowKit
set_option maxRecDepth 100000
attribute [local irreducible] sumL keyedL strL
end Go.Proofs.YtnhpghhibcdklaaGreatDoor
set_option linter.unusedSimpArgs false
set_option linter.unusedVariables false
namespace Go.Proofs.YtnhpghhibcdklaaGreatDoor
open Go Go.RowKit
set_option maxRecDepth 100000
attribute [local irreducible] sumL keyedL strL
end Go.Proofs.YtnhpghhibcdklaaGreatDoor
set_option linter.unusedSimpArgs false
set_option linter.unusedVariables false
namespace Go.Proofs.YtnhpghhibcdklaaGreatDoor.Cip
open Go Go.RowKit
set_option maxRecDepth 100000
theorem twice_spec (x : UInt8) (w : World) : Spec Tryz.prog 383 [B x] w [] (fun _ : Unit => True) (fun _ => B (twice8 x)) (fun _ => []) := by
  exact spec_of (n := 10) Tryz.func383 rfl rfl trivial trivial rfl <| s_r <| q_a rfl rfl <| s_n <| s_r <| q_m rfl rfl <| s_q rfl (y_shl8 (m := 1) rfl rfl dC) <| q_m rfl rfl <| s_q rfl (y_shr8 (m := 7) rfl rfl dC) <| s_q rfl (y_neg8 rfl) <| s_q rfl (y_and8 (b := 27) rfl rfl) <| s_q rfl (y_xor8 rfl rfl) <| q_a rfl rfl <| s_n <| tk_retc <| tk_ret () trivial (.inl rfl) (r1 rfl rfl) (List.Sublist.refl _)
theorem add_spec (kb sb r : Nat) (K V : List UInt8) (T : TypeId) (w : World) (hr : r ≤ 14) (hV : V.length = 16) (hne : kb ≠ sb) (hk : ∀ j, j < 240 → w.cell? ⟨kb, j, none⟩ = some (B (K.getD j 0))) (hs : (cel sb (V.map B) T).holds w) :
    Spec Tryz.prog 362 [PT kb, PT sb, I r] w [cel sb (V.map B) T] (fun _ : Unit => True) (fun _ => .tuple #[]) (fun _ => [cel sb ((addTo K r V 16).map B) T]) := by
  refine spec_of (n := 32) Tryz.func362 rfl rfl ⟨hs, trivial⟩ ⟨fun _ _ h => h, trivial⟩ rfl <| s_r <| q_m rfl rfl <| s_n <| tk_block <| tk_loop (X := Nat) (fun k => k ≤ 16) (fun k => [(0, PT kb), (1, PT sb), (2, I r), (7, I (k : Int))]) (fun k => [cel sb ((addTo K r V k).map B) T]) (fun k => 16 - k) (0) oM sB (List.Sublist.refl _) ?_
  intro k hI
  refine s_r <| s_q rfl (y_lss rfl rfl) <| s_n <| tk_seq <| tk_condP rfl (fun h8 => ?_) (fun h8 => ?_)
  · refine tk_skip <| tk_then <| tk_seq <| tk_block <| s_r <| q_m rfl rfl <| q_a rfl rfl <| s_n <| tk_drawS [21] kR <| s_x 0 rfl (y_move rfl) <| s_x 1 rfl (y_move rfl) <| s_x 2 rfl (y_nilCheck rfl) ?_
    (first | refine s_x 3 rfl (y_ixA01 16 rfl rfl kR oM) ?_ | refine s_x 3 rfl (y_ixAN1 16 rfl rfl kR oM) ?_)
    refine s_l 4 rfl (fun _ h => h) (y_load rfl rfl (hc (.head _) (getB (by rw [addTo_len, hV]; omega)))) <| s_x 5 rfl (y_move rfl) <| s_x 6 rfl (y_move rfl) <| s_x 7 rfl (y_mulI rfl rfl oM) <| s_x 8 rfl (y_move rfl) <| s_x 9 rfl (y_quoI rfl rfl oM) <| s_x 10 rfl (y_addI rfl rfl oM) <| s_x 11 rfl (y_move rfl) <| s_x 12 rfl (y_remI rfl rfl oM) <| s_x 13 rfl (y_nilCheck rfl) <| s_x 14 rfl (y_fld0 rfl kR) <| s_x 15 rfl (y_ixAI 60 4 (4 * r + k / 4) rfl rfl kR oM) <| s_x 16 rfl ((y_ixAI 4 1 (k % 4) rfl rfl kR oM).cast (v := _) (u := .pointer (some ⟨kb, 16 * r + k, none⟩)) (by congr 3; omega)) <| s_l 17 rfl (fun _ h => h) (y_load rfl rfl (hro (hk _ oM) (by simp [Fs, cel]; exact hne))) <| s_x 18 rfl (y_xor8 rfl rfl) <| s_x 19 rfl (y_nilCheck rfl) ?_
    (first | refine s_x 20 rfl (y_ixA01 16 rfl rfl kR oM) ?_ | refine s_x 20 rfl (y_ixAN1 16 rfl rfl kR oM) ?_)
    exact tx_x 21 rfl kR rfl rfl <| a_store1B (H1 := []) rfl rfl kR rfl (by rw [addTo_len, hV]; omega) <| tx_done kR <| tk_in_normal <| tk_then <| tk_region <| s_q rfl (y_addI rfl rfl oM) <| q_m rfl rfl <| tk_nil <| tk_again (k + 1) oM oM sB (List.Sublist.refl _)
  · refine tk_exit <| tk_then_exit <| tk_then_exit <| tk_in_hit ?_
    obtain rfl : k = 16 := by omega
    exact tk_ret () trivial (.inr rfl) (r0 rfl) (List.Sublist.refl _)
theorem forward_spec (w : World) : Spec Tryz.prog 317 [] w [] (fun _ : Unit => True) (fun _ => Ag fwd) (fun _ => []) := by
  exact spec_of (n := 2) Tryz.func317 rfl rfl trivial trivial rfl <| s_r <| tk_act rfl <| a_allocL (cs := (List.replicate 256 0).map B) kR rfl fun b0 => s_n <| s_r <| s_q rfl (y_build (v := Ag fwd) (vs := fwd.zipIdx.map fun p => (p.2, B p.1)) kR (fun _ => kR)) <| tk_act rfl <| a_storeW (H1 := []) 256 rfl rfl kR rfl ⟨by rw [List.length_map]; exact fwd_len, by rw [List.length_map, List.length_replicate]⟩ oneB <| s_n <| tk_retc <| tk_ret () trivial (.inl rfl) (rc rfl rfl (by rw [List.length_map, fwd_len]; kernel_rfl) (hcw (.head _))) (List.nil_sublist _)
theorem getF {b : UInt8} : (fwd.map B).toArray[((b.toNat : Int)).toNat]? = some (B (sbox b)) := getBA (by rw [fwd_len]; exact b_lt b)
theorem shift_spec (V : List UInt8) (w : World) (hV : V.length = 16) : Spec Tryz.prog 363 [Ag V] w [] (fun _ : Unit => True) (fun _ => Ag (shTo V 16)) (fun _ => []) := by
  refine spec_of (n := 22) Tryz.func363 rfl rfl trivial trivial rfl <| s_r <| tk_act rfl <| a_boxL rfl rfl fun b1 => tk_act rfl <| a_allocL (cs := (List.replicate 16 0).map B) kR rfl fun b2 => s_n <| s_r <| tk_act rfl <| a_allocL (cs := (List.replicate 16 0).map B) kR rfl fun b3 => s_n <| tk_seq <| s_r <| q_m rfl rfl <| s_n <| tk_block <| tk_loop (X := Nat) (fun k => k ≤ 16) (fun k => [(1, PT b1), (2, PT b2), (3, PT b3), (5, I (k : Int))]) (fun k => [cel b3 ((shTo V k).map B) 210, cel b2 ((List.replicate 16 0).map B) 210, cel b1 (V.map B) 210]) (fun k => 16 - k) (0) oM sB (List.Sublist.refl _) ?_
  intro k hI
  refine s_r <| s_q rfl (y_lss rfl rfl) <| s_n <| tk_seq <| tk_condP rfl (fun h6 => ?_) (fun h6 => ?_)
  · refine tk_skip <| tk_then <| tk_seq <| tk_block <| s_r <| q_m rfl rfl <| q_a rfl rfl <| s_n <| tk_drawS [12] kR <| s_x 0 rfl (y_move rfl) <| s_x 2 rfl (y_move rfl) <| s_x 3 rfl (y_move rfl) <| s_x 4 rfl (y_remI rfl rfl oM) <| s_x 5 rfl (y_mulI rfl rfl oM) <| s_x 6 rfl (y_addI rfl rfl oM) <| s_x 7 rfl (y_remI rfl rfl oM) <| s_x 8 rfl (y_ixA0I 16 ((k + k % 4 * 4) % 16) rfl rfl kR oM) <| s_l 9 rfl (fun _ h => h) (y_load rfl rfl (hc (mm 2 rfl) (getB oM))) <| tx_a 1 rfl kR rfl <| a_callv [] _ rfl kR rfl (fun w' hw' => forward_spec w') rfl fun _ _ => tk_S (fun _ h => h) <| s_x 10 rfl (y_ixV rfl rfl rfl rfl (fun _ => kR) (ixb _) getF) ?_
    (first | refine s_x 11 rfl (y_ixA01 16 rfl rfl kR oM) ?_ | refine s_x 11 rfl (y_ixAN1 16 rfl rfl kR oM) ?_)
    refine tx_x 12 rfl kR rfl rfl ?_; (first | refine a_store1B (H1 := []) rfl rfl kR rfl sO ?_ | refine a_store1B (H1 := [_]) rfl rfl kR rfl sO ?_ | refine a_store1B (H1 := [_, _]) rfl rfl kR rfl sO ?_); exact tx_done kR <| tk_in_normal <| tk_then <| tk_region <| s_q rfl (y_addI rfl rfl oM) <| q_m rfl rfl <| tk_nil <| tk_again (k + 1) oM oM sB (List.Sublist.refl _)
  · refine tk_exit <| tk_then_exit <| tk_then_exit <| tk_in_hit <| tk_then <| s_r ?_
    obtain rfl : k = 16 := by omega
    (first | refine s_q rfl (y_loadA 16 rfl kR sI (hcw (.head _))) ?_ | refine s_q rfl (y_loadA 16 rfl kR sI (hcw (mm 1 rfl))) ?_ | refine s_q rfl (y_loadA 16 rfl kR sI (hcw (mm 2 rfl))) ?_)
    refine tk_act rfl ?_; (first | refine a_storeW (H1 := []) 16 rfl rfl kR rfl ⟨by simp, by simp⟩ oneB ?_ | refine a_storeW (H1 := [_]) 16 rfl rfl kR rfl ⟨by simp, by simp⟩ oneB ?_ | refine a_storeW (H1 := [_, _]) 16 rfl rfl kR rfl ⟨by simp, by simp⟩ oneB ?_); exact s_n <| tk_retc <| tk_ret () trivial (.inl rfl) (rc rfl rfl (by simp; kernel_rfl) (hcw (mm 1 rfl))) (List.nil_sublist _)
theorem mix_spec (sb : Nat) (V : List UInt8) (T : TypeId) (w : World) (hV : V.length = 16) (hs : (cel sb (V.map B) T).holds w) :
    Spec Tryz.prog 364 [PT sb] w [cel sb (V.map B) T] (fun _ : Unit => True) (fun _ => .tuple #[]) (fun _ => [cel sb ((mixTo V 4).map B) T]) := by
  refine spec_of (n := 82) Tryz.func364 rfl rfl ⟨hs, trivial⟩ ⟨fun _ _ h => h, trivial⟩ rfl <| s_r <| q_a rfl rfl <| s_n <| tk_block <| tk_loop (X := Nat) (fun k => k ≤ 4) (fun k => [(0, PT sb), (2, I (4 * (k : Int)))]) (fun k => [cel sb ((mixTo V k).map B) T]) (fun k => 4 - k) (0) oM sB (List.Sublist.refl _) ?_
  intro k hI
  refine tk_seq <| s_r <| q_m rfl rfl <| s_q rfl (y_lss rfl rfl) <| s_n <| tk_condP rfl (fun h10 => ?_) (fun h10 => ?_)
  · refine tk_skip <| tk_then <| tk_seq <| tk_block <| s_r <| q_m rfl rfl <| s_q rfl (y_nilCheck rfl) <| q_m rfl rfl <| q_m rfl rfl <| s_q rfl (y_addI rfl rfl oM) <| tk_qe (.slice (some ⟨sb, 4 * k, none⟩) 4 (16 - 4 * k)) rfl rfl rfl (y_cutAN 16 1 (4 * k) (4 * k + 4) rfl rfl rfl kR oM) sI <| q_a rfl rfl <| s_n <| tk_seq <| tk_drawS [] kR <| s_x 0 rfl (y_move rfl) ?_
    (first | refine s_x 1 rfl (y_ixS01 (i := 0) rfl rfl kR oM) ?_ | refine s_x 1 rfl (y_ixSN1 (i := 0) rfl rfl kR oM) ?_)
    refine s_l 2 rfl (fun _ h => h) (y_load rfl rfl (hc (.head _) (getB (by simp [hV]; omega)))) <| s_x 3 rfl (y_move rfl) ?_
    (first | refine s_x 4 rfl (y_ixS01 (i := 1) rfl rfl kR oM) ?_ | refine s_x 4 rfl (y_ixSN1 (i := 1) rfl rfl kR oM) ?_)
    refine s_l 5 rfl (fun _ h => h) (y_load rfl rfl (hc (.head _) (getB (by simp [hV]; omega)))) <| s_x 6 rfl (y_move rfl) ?_
    (first | refine s_x 7 rfl (y_ixS01 (i := 2) rfl rfl kR oM) ?_ | refine s_x 7 rfl (y_ixSN1 (i := 2) rfl rfl kR oM) ?_)
    refine s_l 8 rfl (fun _ h => h) (y_load rfl rfl (hc (.head _) (getB (by simp [hV]; omega)))) <| s_x 9 rfl (y_move rfl) ?_
    (first | refine s_x 10 rfl (y_ixS01 (i := 3) rfl rfl kR oM) ?_ | refine s_x 10 rfl (y_ixSN1 (i := 3) rfl rfl kR oM) ?_)
    refine s_l 11 rfl (fun _ h => h) (y_load rfl rfl (hc (.head _) (getB (by simp [hV]; omega)))) <| s_x 12 rfl (y_assign rfl) <| s_x 13 rfl (y_assign rfl) <| s_x 14 rfl (y_assign rfl) <| s_x 15 rfl (y_assign rfl) <| tx_done kR <| tk_then <| s_r <| q_m rfl rfl <| q_m rfl rfl <| s_q rfl (y_xor8 rfl rfl) <| q_m rfl rfl <| s_q rfl (y_xor8 rfl rfl) <| q_m rfl rfl <| s_q rfl (y_xor8 rfl rfl) <| q_a rfl rfl <| s_n <| tk_seq <| tk_drawS [11] kR <| s_x 0 rfl (y_move rfl) ?_
    (first | refine s_x 1 rfl (y_ixS01 (i := 0) rfl rfl kR oM) ?_ | refine s_x 1 rfl (y_ixSN1 (i := 0) rfl rfl kR oM) ?_)
    refine s_l 2 rfl (fun _ h => h) (y_load rfl rfl (hc (.head _) (getB (by simp [hV]; omega)))) <| s_x 3 rfl (y_move rfl) <| s_x 4 rfl (y_move rfl) <| s_x 5 rfl (y_move rfl) <| s_x 6 rfl (y_xor8 rfl rfl) <| tx_a 7 rfl kR rfl <| a_callv [] _ rfl kR rfl (fun w' hw' => twice_spec _ w') rfl fun _ _ => tk_S (fun _ h => h) <| s_x 8 rfl (y_xor8 rfl rfl) <| s_x 9 rfl (y_xor8 rfl rfl) ?_
    (first | refine s_x 10 rfl (y_ixS01 (i := 0) rfl rfl kR oM) ?_ | refine s_x 10 rfl (y_ixSN1 (i := 0) rfl rfl kR oM) ?_)
    refine tx_x 11 rfl kR rfl rfl <| a_store1B (H1 := []) rfl rfl kR rfl (by simp [hV]; omega) <| tx_done kR <| tk_then <| tk_seq <| tk_drawS [11] kR <| s_x 0 rfl (y_move rfl) ?_
    (first | refine s_x 1 rfl (y_ixS01 (i := 1) rfl rfl kR oM) ?_ | refine s_x 1 rfl (y_ixSN1 (i := 1) rfl rfl kR oM) ?_)
    refine s_l 2 rfl (fun _ h => h) (y_load rfl rfl (hc (.head _) (getB (by simp [hV]; omega)))) <| s_x 3 rfl (y_move rfl) <| s_x 4 rfl (y_move rfl) <| s_x 5 rfl (y_move rfl) <| s_x 6 rfl (y_xor8 rfl rfl) <| tx_a 7 rfl kR rfl <| a_callv [] _ rfl kR rfl (fun w' hw' => twice_spec _ w') rfl fun _ _ => tk_S (fun _ h => h) <| s_x 8 rfl (y_xor8 rfl rfl) <| s_x 9 rfl (y_xor8 rfl rfl) ?_
    (first | refine s_x 10 rfl (y_ixS01 (i := 1) rfl rfl kR oM) ?_ | refine s_x 10 rfl (y_ixSN1 (i := 1) rfl rfl kR oM) ?_)
    refine tx_x 11 rfl kR rfl rfl <| a_store1B (H1 := []) rfl rfl kR rfl (by simp [hV]; omega) <| tx_done kR <| tk_then <| tk_seq <| tk_drawS [11] kR <| s_x 0 rfl (y_move rfl) ?_
    (first | refine s_x 1 rfl (y_ixS01 (i := 2) rfl rfl kR oM) ?_ | refine s_x 1 rfl (y_ixSN1 (i := 2) rfl rfl kR oM) ?_)
    refine s_l 2 rfl (fun _ h => h) (y_load rfl rfl (hc (.head _) (getB (by simp [hV]; omega)))) <| s_x 3 rfl (y_move rfl) <| s_x 4 rfl (y_move rfl) <| s_x 5 rfl (y_move rfl) <| s_x 6 rfl (y_xor8 rfl rfl) <| tx_a 7 rfl kR rfl <| a_callv [] _ rfl kR rfl (fun w' hw' => twice_spec _ w') rfl fun _ _ => tk_S (fun _ h => h) <| s_x 8 rfl (y_xor8 rfl rfl) <| s_x 9 rfl (y_xor8 rfl rfl) ?_
    (first | refine s_x 10 rfl (y_ixS01 (i := 2) rfl rfl kR oM) ?_ | refine s_x 10 rfl (y_ixSN1 (i := 2) rfl rfl kR oM) ?_)
    refine tx_x 11 rfl kR rfl rfl <| a_store1B (H1 := []) rfl rfl kR rfl (by simp [hV]; omega) <| tx_done kR <| tk_then <| tk_drawS [11] kR <| s_x 0 rfl (y_move rfl) ?_
    (first | refine s_x 1 rfl (y_ixS01 (i := 3) rfl rfl kR oM) ?_ | refine s_x 1 rfl (y_ixSN1 (i := 3) rfl rfl kR oM) ?_)
    refine s_l 2 rfl (fun _ h => h) (y_load rfl rfl (hc (.head _) (getB (by simp [hV]; omega)))) <| s_x 3 rfl (y_move rfl) <| s_x 4 rfl (y_move rfl) <| s_x 5 rfl (y_move rfl) <| s_x 6 rfl (y_xor8 rfl rfl) <| tx_a 7 rfl kR rfl <| a_callv [] _ rfl kR rfl (fun w' hw' => twice_spec _ w') rfl fun _ _ => tk_S (fun _ h => h) <| s_x 8 rfl (y_xor8 rfl rfl) <| s_x 9 rfl (y_xor8 rfl rfl) ?_
    (first | refine s_x 10 rfl (y_ixS01 (i := 3) rfl rfl kR oM) ?_ | refine s_x 10 rfl (y_ixSN1 (i := 3) rfl rfl kR oM) ?_)
    exact tx_x 11 rfl kR rfl rfl <| a_store1B (H1 := []) rfl rfl kR rfl (by simp [hV]; omega) <| tx_done kR <| tk_in_normal <| tk_then <| tk_region <| q_m rfl rfl <| s_q rfl (y_addI rfl rfl oM) <| q_a rfl rfl <| tk_nil <| tk_again (k + 1) oM oM (by exact ⟨rfl, by simp [lk]; omega, trivial⟩) (List.Sublist.refl _)
  · refine tk_exit <| tk_then_exit <| tk_then_exit <| tk_in_hit ?_
    obtain rfl : k = 4 := by omega
    exact tk_ret () trivial (.inr rfl) (r0 rfl) (List.Sublist.refl _)
theorem turn_spec (kb : Nat) (K V : List UInt8) (w : World) (hV : V.length = 16) (hk : ∀ j, j < 240 → w.cell? ⟨kb, j, none⟩ = some (B (K.getD j 0))) :
    Spec Tryz.prog 318 [PT kb, Ag V] w [] (fun _ : Unit => True) (fun _ => Ag (turn K V)) (fun _ => []) := by
  refine spec_of (n := 24) Tryz.func318 rfl rfl trivial trivial rfl <| s_r <| tk_act rfl <| a_boxL rfl rfl fun b3 => tk_act rfl <| a_allocL (cs := (List.replicate 16 0).map B) kR rfl fun b4 => s_n <| tk_seq <| s_r <| q_m rfl rfl <| tk_qe (.bool false) rfl rfl rfl (y_pnil rfl rfl rfl) (rfl) <| s_n <| tk_cond0 rfl <| tk_skip <| tk_then <| s_r <| q_m rfl rfl <| tk_act rfl <| a_callv [_] _ rfl kR rfl (fun w' hw' => add_spec kb b3 0 K V 210 w' oM hV (hw'.ne (hk 0 oM) (fun h => h) (mm 1 rfl)) (fun j hj => hw'.fr.cell (hk j hj) (fun h => h)) (hw'.mem (mm 1 rfl))) rfl fun _ _ => s_n <| tk_seq <| s_r <| q_a rfl rfl <| s_n ?_; refine tk_block <| tk_loop (X := Nat) (fun r => r ≤ 14) (fun r => [(0, PT kb), (3, PT b3), (4, PT b4), (5, I ((r + 1 : Nat) : Int))]) (fun r => [cel b4 ((List.replicate 16 0).map B) 210, cel b3 ((turnTo K V r).map B) 210]) (fun r => 14 - r) (0) oM sB (List.Sublist.refl _) ?_
  intro r hI
  refine tk_seq <| s_r <| q_m rfl rfl <| s_q rfl (y_leq rfl rfl) <| s_n <| tk_condP rfl (fun h12 => ?_) (fun h12 => ?_)
  · refine tk_skip <| tk_then <| tk_seq <| tk_block <| s_r ?_
    have hT := turnTo_len (K := K) (r := r) hV
    (first | refine s_q rfl (y_loadA 16 rfl kR (by simp [hV]) (hcw (.head _))) ?_ | refine s_q rfl (y_loadA 16 rfl kR (by simp [hV]) (hcw (mm 1 rfl))) ?_)
    refine tk_act rfl <| a_callv [] _ rfl kR rfl (fun w' hw' => shift_spec _ w' (by simp [hV])) rfl fun _ _ => tk_act rfl <| a_storeW (H1 := [_]) 16 rfl rfl kR rfl ⟨by simp, by simp [hT]⟩ oneB <| s_n <| tk_seq <| s_r <| q_m rfl rfl <| s_q rfl (y_lss rfl rfl) <| s_n <| tk_condP rfl (fun h18 => ?_) (fun h18 => ?_)
    · exact tk_region <| tk_act rfl <| a_callv [_] _ rfl kR rfl (fun w' hw' => mix_spec b3 _ 210 w' sI (hw'.mem (mm 1 rfl))) rfl fun _ _ => s_n <| tk_region <| q_m rfl rfl <| q_m rfl rfl <| tk_act rfl <| a_callv [_] _ rfl kR rfl (fun w' hw' => add_spec kb b3 (r + 1) K _ 210 w' oM sI (hw'.ne (hk 0 oM) (fun h => h) (mm 1 rfl)) (fun j hj => hw'.fr.cell (hk j hj) (fun h => h)) (hw'.mem (mm 1 rfl))) rfl fun _ _ => tk_nil <| tk_in_normal <| tk_then <| tk_region <| q_m rfl rfl <| tk_qe (I ((r + 1 + 1 : Nat) : Int)) rfl rfl rfl (y_addI rfl rfl oM) sI <| q_a rfl rfl <| tk_nil <| tk_again (r + 1) oM oM sB (by simp only [turnTo]; (first | rw [if_pos oM] | rw [if_neg oM]); exact List.Sublist.refl _)
    · exact tk_skip <| tk_then <| tk_region <| q_m rfl rfl <| q_m rfl rfl <| tk_act rfl <| a_callv [_] _ rfl kR rfl (fun w' hw' => add_spec kb b3 (r + 1) K _ 210 w' oM sI (hw'.ne (hk 0 oM) (fun h => h) (mm 1 rfl)) (fun j hj => hw'.fr.cell (hk j hj) (fun h => h)) (hw'.mem (mm 1 rfl))) rfl fun _ _ => tk_nil <| tk_in_normal <| tk_then <| tk_region <| q_m rfl rfl <| tk_qe (I ((r + 1 + 1 : Nat) : Int)) rfl rfl rfl (y_addI rfl rfl oM) sI <| q_a rfl rfl <| tk_nil <| tk_again (r + 1) oM oM sB (by simp only [turnTo]; (first | rw [if_pos oM] | rw [if_neg oM]); exact List.Sublist.refl _)
  · refine tk_exit <| tk_then_exit <| tk_then_exit <| tk_in_hit <| tk_then <| s_r ?_
    obtain rfl : r = 14 := by omega
    have hT := turnTo_len (K := K) (r := 14) hV
    (first | refine s_q rfl (y_loadA 16 rfl kR (by simp [hV]) (hcw (.head _))) ?_ | refine s_q rfl (y_loadA 16 rfl kR (by simp [hV]) (hcw (mm 1 rfl))) ?_)
    exact tk_act rfl <| a_storeW (H1 := []) 16 rfl rfl kR rfl ⟨by simp [hT], by simp⟩ oneB <| s_n <| tk_retc <| tk_ret () trivial (.inl rfl) (rc rfl rfl (by simp [hT]; kernel_rfl) (hcw (.head _))) (List.nil_sublist _)
end Go.Proofs.YtnhpghhibcdklaaGreatDoor.Cip
set_option linter.unusedSimpArgs false
set_option linter.unusedVariables false
namespace Go.Proofs.YtnhpghhibcdklaaGreatDoor.Cip
open Go Go.RowKit
set_option maxRecDepth 100000
theorem tv_len {W : List UInt8} {n : Nat} {con : UInt8} (h : W.length = 240) (hn : n < 52) : (tv W n con).length = 4 := by
  simp only [tv]; split
  · rfl
  · split <;> simp [word_len h (show n + 7 < 60 by omega)]
set_option maxHeartbeats 1000000 in
theorem make_spec (ab ao cap : Nat) (b : List UInt8) (w : World) (hb : b.length = 32) (hcap : 32 ≤ cap) (hr : ∀ j, j < b.length → w.cell? ⟨ab, ao + j, none⟩ = some (B (b.getD j 0))) :
    Spec Tryz.prog 260 [.slice (some ⟨ab, ao, none⟩) 32 cap] w [] (fun _ : Nat => True) (fun kb => .tuple #[PT kb, I 0]) (fun kb => [cel kb ((keyW b).map B) 466]) := by
  refine spec_of (n := 110) Tryz.func260 rfl rfl trivial trivial rfl <| s_r <| q_a rfl rfl <| q_a rfl rfl <| s_n <| tk_seq <| s_r <| q_m rfl rfl <| s_q rfl (y_lenS rfl rfl) <| tk_qe (.bool false) rfl rfl rfl (y_neq rfl rfl) (bool_f oM) <| s_n <| tk_cond0 rfl <| tk_skip <| tk_then <| s_r <| s_q rfl (y_build (v := Ag (List.replicate 240 0)) (vs := []) rfl (fun _ => kR)) <| tk_act rfl <| a_boxL (cs := (List.replicate 240 0).map B) rfl rfl fun b15 => q_a rfl rfl <| s_n <| tk_seq <| s_r <| q_m rfl rfl <| s_q rfl (y_nilCheck rfl) ?_; refine s_q rfl (y_fld0 rfl kR) <| s_q rfl (y_cutAh (m := 60) (sz := 4) rfl rfl kR oM) <| s_q rfl (y_lenS rfl rfl) <| q_m rfl rfl <| s_n <| tk_block <| tk_loop (X := Nat) (fun i => i ≤ 8) (fun i => [(0, .slice (some ⟨ab, ao, none⟩) 32 cap), (4, PT b15), (20, I 8), (21, I (i : Int))]) (fun i => [cel b15 ((initTo b i).map B) 466]) (fun i => 8 - i) (0) oM sB (List.Sublist.refl _) ?_
  intro i hI
  refine s_r <| s_q rfl (y_lss rfl rfl) <| s_n <| tk_seq <| tk_condP rfl (fun h22 => ?_) (fun h22 => ?_)
  · refine tk_skip <| tk_then <| tk_seq <| tk_block <| s_r <| q_m rfl rfl <| q_a rfl rfl <| s_n <| tk_drawS [11] kR <| s_x 0 rfl (y_move rfl) <| s_x 1 rfl (y_move rfl) <| s_x 2 rfl (y_move rfl) <| s_x 3 rfl (y_move rfl) <| s_x 4 rfl (y_mulI rfl rfl oM) <| s_x 5 rfl ((y_cutSlN 1 (i * 4) rfl rfl kR oM).cast (v := _) (u := .slice (some ⟨ab, ao + i * 4, none⟩) (32 - i * 4) (cap - i * 4)) sI) <| s_x 6 rfl (y_s2a rfl rfl oM) <| s_l 7 rfl (fun _ h => h) (y_loadA 4 rfl kR (by simp [hb] <;> omega) (hroB (m := 4) hr (fun h => h))) <| s_x 8 rfl (y_nilCheck rfl) <| s_x 9 rfl (y_fld0 rfl kR) <| s_x 10 rfl ((y_ixAN 60 4 rfl rfl kR oM).cast (v := _) (u := .pointer (some ⟨b15, i * 4, none⟩)) (by congr 3 <;> omega)) <| tx_x 11 rfl kR rfl rfl <| a_storeL (H1 := []) 4 rfl rfl kR rfl (by simp [hb] <;> omega) oneB (by rw [List.length_map, initTo_len hb hI] <;> omega) <| tx_done kR <| tk_in_normal ?_; exact tk_then <| tk_region <| s_q rfl (y_addI rfl rfl oM) <| q_m rfl rfl <| tk_nil <| tk_again (i + 1) oM oM sB (by rw [initTo_succ hb oM]; simp only [List.map_append, List.map_take, List.map_drop]; exact List.Sublist.refl _)
  · refine tk_exit <| tk_then_exit <| tk_then_exit <| tk_in_hit <| tk_then <| s_r <| q_a rfl rfl <| s_n <| tk_seq <| s_r <| q_a rfl rfl <| s_n <| tk_block <| tk_loop (X := Nat) (fun n => n ≤ 52) (fun n => [(4, PT b15), (6, B (expW b n).2), (7, I ((n + 8 : Nat) : Int))]) (fun n => [cel b15 ((expW b n).1.map B) 466]) (fun n => 52 - n) (0) oM sB (by have e : i = 8 := oM; subst e; exact List.Sublist.refl _) ?_
    intro n hI
    refine tk_seq <| s_r <| q_m rfl rfl <| s_q rfl (y_lss rfl rfl) <| s_n <| tk_condP rfl (fun h37 => ?_) (fun h37 => ?_)
    · refine tk_skip <| tk_then <| tk_seq <| tk_block <| s_r <| q_m rfl rfl <| q_m rfl rfl <| tk_qe (I ((n + 7 : Nat) : Int)) rfl rfl rfl (y_subI rfl rfl oM) (by congr 1 <;> omega) <| s_q rfl (y_nilCheck rfl) <| s_q rfl (y_fld0 rfl kR) <| tk_qe (.pointer (some ⟨b15, (n + 7) * 4, none⟩)) rfl rfl rfl (y_ixAI 60 4 (n + 7) rfl rfl kR oM) (by congr 3 <;> omega) <| s_q rfl (y_loadA 4 rfl kR (by simp [hb] <;> omega) (hcsB (m := 4) (.head _))) <| tk_act rfl <| a_allocL (cs := (List.replicate 4 0).map B) kR rfl fun b8 => tk_act rfl <| a_storeW (H1 := []) 4 rfl rfl kR rfl ⟨by simp [hb] <;> omega, by simp⟩ oneB <| s_n <| tk_seqI (X := Unit) (fun _ => True) (fun _ => [(4, PT b15), (6, B (conN (expW b n).2 n)), (7, I ((n + 8 : Nat) : Int)), (8, PT b8)]) (fun _ => [cel b8 ((tv (expW b n).1 n (expW b n).2).map B) 463, cel b15 ((expW b n).1.map B) 466]) ?_ ?_
      · refine s_r <| q_m rfl rfl <| s_q rfl (y_remI rfl rfl oM) <| s_n <| tk_block <| s_r <| s_q rfl (y_eql rfl rfl) <| q_a rfl rfl <| s_n <| tk_condP rfl (fun h49 => ?_) (fun h49 => ?_)
        · refine tk_seq <| tk_drawS [19] kR ?_
          (first | refine s_x 1 rfl (y_ixA01 4 (i := 1) rfl rfl kR oM) ?_ | refine s_x 1 rfl (y_ixAN1 4 (i := 1) rfl rfl kR oM) ?_)
          refine s_l 2 rfl (fun _ h => h) (y_load rfl rfl (hc (.head _) (getB (by simp [word, hb] <;> omega)))) <| s_x 4 rfl (y_move rfl) ?_
          (first | refine s_x 7 rfl (y_ixA01 4 (i := 2) rfl rfl kR oM) ?_ | refine s_x 7 rfl (y_ixAN1 4 (i := 2) rfl rfl kR oM) ?_)
          refine s_l 8 rfl (fun _ h => h) (y_load rfl rfl (hc (.head _) (getB (by simp [word, hb] <;> omega)))) ?_
          (first | refine s_x 11 rfl (y_ixA01 4 (i := 3) rfl rfl kR oM) ?_ | refine s_x 11 rfl (y_ixAN1 4 (i := 3) rfl rfl kR oM) ?_)
          refine s_l 12 rfl (fun _ h => h) (y_load rfl rfl (hc (.head _) (getB (by simp [word, hb] <;> omega)))) ?_
          (first | refine s_x 15 rfl (y_ixA01 4 (i := 0) rfl rfl kR oM) ?_ | refine s_x 15 rfl (y_ixAN1 4 (i := 0) rfl rfl kR oM) ?_)
          refine s_l 16 rfl (fun _ h => h) (y_load rfl rfl (hc (.head _) (getB (by simp [word, hb] <;> omega)))) <| tx_a 0 rfl kR rfl <| a_callv [] _ rfl kR rfl (fun w' hw' => forward_spec w') rfl fun _ _ => tk_S (fun _ h => h) <| s_x 3 rfl (y_ixV rfl rfl rfl rfl (fun _ => kR) (ixb _) getF) <| s_x 5 rfl (y_xor8 rfl rfl) <| tx_a 6 rfl kR rfl <| a_callv [] _ rfl kR rfl (fun w' hw' => forward_spec w') rfl fun _ _ => tk_S (fun _ h => h) <| s_x 9 rfl (y_ixV rfl rfl rfl rfl (fun _ => kR) (ixb _) getF) <| tx_a 10 rfl kR rfl <| a_callv [] _ rfl kR rfl (fun w' hw' => forward_spec w') rfl fun _ _ => tk_S (fun _ h => h) <| s_x 13 rfl (y_ixV rfl rfl rfl rfl (fun _ => kR) (ixb _) getF) <| tx_a 14 rfl kR rfl <| a_callv [] _ rfl kR rfl (fun w' hw' => forward_spec w') rfl fun _ _ => tk_S (fun _ h => h) <| s_x 17 rfl (y_ixV rfl rfl rfl rfl (fun _ => kR) (ixb _) getF) <| s_x 18 rfl (y_build (v := Ag (tvA (word (expW b n).1 (n + 7)) (expW b n).2)) rfl (fun _ => kR)) <| tx_x 19 rfl kR rfl rfl <| a_storeW (H1 := []) 4 rfl rfl kR rfl ⟨by simp [tvA], by simp [word, hb] <;> omega⟩ oneB <| tx_done kR <| tk_then <| tk_region ?_; refine q_m rfl rfl <| s_q rfl (y_shl8 (m := 1) rfl rfl dC) <| tk_qe (B (conN (expW b n).2 n)) rfl rfl rfl (y_assign rfl) (by rw [conN, if_pos oM]) <| tk_nil <| tk_in_normal <| tk_to () trivial ⟨rfl, ?_, rfl, rfl, trivial⟩ ?_
          · (first | rfl | (simp only [conN]; rw [if_pos oM]; rfl) | (simp only [conN]; rw [if_neg oM]; rfl))
          · (simp only [tv]; first | (rw [if_neg oM, if_pos oM]; have e : j = 4 := oM; subst e; exact List.Sublist.refl _) | (rw [if_pos oM]; exact List.Sublist.refl _) | (rw [if_neg oM, if_pos oM]; exact List.Sublist.refl _) | (rw [if_neg oM, if_neg oM]; exact List.Sublist.refl _))
        · refine s_r <| s_q rfl (y_eql rfl rfl) <| q_a rfl rfl <| s_n <| tk_condP rfl (fun h72 => ?_) (fun h72 => ?_)
          · refine s_r <| q_m rfl rfl <| s_n <| tk_block <| tk_loop (X := Nat) (fun j => j ≤ 4) (fun j => [(4, PT b15), (6, B (expW b n).2), (7, I ((n + 8 : Nat) : Int)), (8, PT b8), (74, I (j : Int))]) (fun j => [cel b8 ((subTo (word (expW b n).1 (n + 7)) j).map B) 463, cel b15 ((expW b n).1.map B) 466]) (fun j => 4 - j) (0) oM sB (List.Sublist.refl _) ?_
            intro j hI2
            refine s_r <| s_q rfl (y_lss rfl rfl) <| s_n <| tk_seq <| tk_condP rfl (fun h75 => ?_) (fun h75 => ?_)
            · refine tk_skip <| tk_then <| tk_seq <| tk_block <| s_r <| q_m rfl rfl <| q_a rfl rfl <| s_n <| tk_drawS [7] kR <| s_x 0 rfl (y_move rfl) <| s_x 2 rfl (y_move rfl) ?_
              (first | refine s_x 3 rfl (y_ixA01 4 rfl rfl kR oM) ?_ | refine s_x 3 rfl (y_ixAN1 4 rfl rfl kR oM) ?_)
              refine s_l 4 rfl (fun _ h => h) (y_load rfl rfl (hc (.head _) (getB (by simp [word, hb] <;> omega)))) <| tx_a 1 rfl kR rfl <| a_callv [] _ rfl kR rfl (fun w' hw' => forward_spec w') rfl fun _ _ => tk_S (fun _ h => h) <| s_x 5 rfl (y_ixV rfl rfl rfl rfl (fun _ => kR) (ixb _) getF) ?_
              (first | refine s_x 6 rfl (y_ixA01 4 rfl rfl kR oM) ?_ | refine s_x 6 rfl (y_ixAN1 4 rfl rfl kR oM) ?_)
              refine tx_x 7 rfl kR rfl rfl ?_; (first | refine a_store1B (H1 := []) rfl rfl kR rfl (by simp [word, hb] <;> omega) ?_ | refine a_store1B (H1 := [_]) rfl rfl kR rfl (by simp [word, hb] <;> omega) ?_); exact tx_done kR <| tk_in_normal <| tk_then <| tk_region <| s_q rfl (y_addI rfl rfl oM) <| q_m rfl rfl <| tk_nil <| tk_again (j + 1) oM oM sB (List.Sublist.refl _)
            · refine tk_exit <| tk_then_exit <| tk_then_exit <| tk_in_hit <| tk_in_normal <| tk_to () trivial ⟨rfl, ?_, rfl, rfl, trivial⟩ ?_
              · (first | rfl | (simp only [conN]; rw [if_pos oM]; rfl) | (simp only [conN]; rw [if_neg oM]; rfl))
              · (simp only [tv]; first | (rw [if_neg oM, if_pos oM]; have e : j = 4 := oM; subst e; exact List.Sublist.refl _) | (rw [if_pos oM]; exact List.Sublist.refl _) | (rw [if_neg oM, if_pos oM]; exact List.Sublist.refl _) | (rw [if_neg oM, if_neg oM]; exact List.Sublist.refl _))
          · refine tk_skip <| tk_in_normal <| tk_to () trivial ⟨rfl, ?_, rfl, rfl, trivial⟩ ?_
            · (first | rfl | (simp only [conN]; rw [if_pos oM]; rfl) | (simp only [conN]; rw [if_neg oM]; rfl))
            · (simp only [tv]; first | (rw [if_neg oM, if_pos oM]; have e : j = 4 := oM; subst e; exact List.Sublist.refl _) | (rw [if_pos oM]; exact List.Sublist.refl _) | (rw [if_neg oM, if_pos oM]; exact List.Sublist.refl _) | (rw [if_neg oM, if_neg oM]; exact List.Sublist.refl _))
      · intro _ _
        refine s_r <| q_m rfl rfl <| s_n <| tk_block <| tk_loop (X := Nat) (fun j => j ≤ 4) (fun j => [(4, PT b15), (6, B (conN (expW b n).2 n)), (7, I ((n + 8 : Nat) : Int)), (8, PT b8), (85, I (j : Int))]) (fun j => [cel b8 ((tv (expW b n).1 n (expW b n).2).map B) 463, cel b15 ((putTo (expW b n).1 n (tv (expW b n).1 n (expW b n).2) j).map B) 466]) (fun j => 4 - j) (0) oM sB (List.Sublist.refl _) ?_
        intro j hI2
        refine s_r <| s_q rfl (y_lss rfl rfl) <| s_n <| tk_seq <| tk_condP rfl (fun h86 => ?_) (fun h86 => ?_)
        · refine tk_skip <| tk_then <| tk_seq <| tk_block <| s_r <| q_m rfl rfl <| q_a rfl rfl <| s_n <| tk_drawS [20] kR <| s_x 0 rfl (y_move rfl) <| s_x 1 rfl (y_move rfl) <| s_x 2 rfl (y_move rfl) <| s_x 3 rfl (y_move rfl) <| s_x 4 rfl (y_move rfl) <| s_x 5 rfl (y_subI rfl rfl oM) <| s_x 6 rfl (y_move rfl) <| s_x 7 rfl (y_nilCheck rfl) <| s_x 8 rfl (y_fld0 rfl kR) <| s_x 9 rfl ((y_ixAI 60 4 n rfl rfl kR oM).cast (v := _) (u := .pointer (some ⟨b15, n * 4, none⟩)) (by congr 3 <;> omega)) ?_
          (first | refine s_x 10 rfl (y_ixA01 4 rfl rfl kR oM) ?_ | refine s_x 10 rfl (y_ixAN1 4 rfl rfl kR oM) ?_)
          refine s_l 11 rfl (fun _ h => h) (y_load rfl rfl (hc (mm 1 rfl) (getB (by simp [hb] <;> omega)))) <| s_x 12 rfl (y_move rfl) ?_
          (first | refine s_x 13 rfl (y_ixA01 4 rfl rfl kR oM) ?_ | refine s_x 13 rfl (y_ixAN1 4 rfl rfl kR oM) ?_)
          refine s_l 14 rfl (fun _ h => h) (y_load rfl rfl (hc (.head _) (getB (by rw [tv_len (expW_len hb) oM] <;> omega)))) <| s_x 15 rfl (y_xor8 rfl rfl) <| s_x 16 rfl (y_nilCheck rfl) <| s_x 17 rfl (y_fld0 rfl kR) <| s_x 18 rfl ((y_ixAN 60 4 rfl rfl kR oM).cast (v := _) (u := .pointer (some ⟨b15, (n + 8) * 4, none⟩)) (by congr 3 <;> omega)) ?_
          (first | refine s_x 19 rfl (y_ixA01 4 rfl rfl kR oM) ?_ | refine s_x 19 rfl (y_ixAN1 4 rfl rfl kR oM) ?_)
          exact tx_x 20 rfl kR rfl rfl <| a_store1B (H1 := [_]) rfl rfl kR rfl (by simp [hb] <;> omega) <| tx_done kR <| tk_in_normal <| tk_then <| tk_region <| s_q rfl (y_addI rfl rfl oM) <| q_m rfl rfl <| tk_nil <| tk_again (j + 1) oM oM sB (List.Sublist.refl _)
        · exact tk_exit <| tk_then_exit <| tk_then_exit <| tk_in_hit <| tk_in_normal <| tk_then <| tk_region <| q_m rfl rfl <| tk_qe (I ((n + 1 + 8 : Nat) : Int)) rfl rfl rfl (y_addI rfl rfl oM) (by congr 1 <;> omega) <| q_a rfl rfl <| tk_nil <| tk_again (n + 1) oM oM sB (by have e : j = 4 := oM; subst e; exact List.Sublist.cons _ (List.Sublist.refl _))
    · refine tk_exit <| tk_then_exit <| tk_then_exit <| tk_in_hit <| tk_then <| s_r ?_
      obtain rfl : n = 52 := by omega
      exact q_m rfl rfl <| q_a rfl rfl <| q_a rfl rfl <| s_n <| tk_retc <| tk_ret b15 trivial (.inl rfl) (r2 rfl rfl rfl) (List.Sublist.refl _)
end Go.Proofs.YtnhpghhibcdklaaGreatDoor.Cip
set_option linter.unusedSimpArgs false
set_option linter.unusedVariables false
namespace Go.Proofs.YtnhpghhibcdklaaGreatDoor.Cip
open Go Go.RowKit
set_option maxRecDepth 100000
theorem list16 {l : List UInt8} (h : l.length = 16) : ∃ a0 a1 a2 a3 a4 a5 a6 a7 a8 a9 a10 a11 a12 a13 a14 a15, l = [a0, a1, a2, a3, a4, a5, a6, a7, a8, a9, a10, a11, a12, a13, a14, a15] := by
  match l, h with
  | [a0, a1, a2, a3, a4, a5, a6, a7, a8, a9, a10, a11, a12, a13, a14, a15], _ => exact ⟨a0, a1, a2, a3, a4, a5, a6, a7, a8, a9, a10, a11, a12, a13, a14, a15, rfl⟩
def flowCs (kb : Nat) (N : List UInt8) (a : Int) : List Value := PT kb :: (N.map B ++ [I a])
theorem begin_spec (kb : Nat) (N : List UInt8) (w : World) (hN : N.length = 16) :
    Spec Tryz.prog 261 [PT kb, Ag N] w [] (fun _ : Nat => True) (fun fb => .tuple #[PT fb, I 0]) (fun fb => [cel fb (flowCs kb N 0) 414]) := by
  obtain ⟨a0, a1, a2, a3, a4, a5, a6, a7, a8, a9, a10, a11, a12, a13, a14, a15, rfl⟩ := list16 hN
  refine spec_of (n := 12) Tryz.func261 rfl rfl trivial trivial rfl <| s_r <| tk_act rfl <| a_boxL rfl rfl fun b3 => q_a rfl rfl <| q_a rfl rfl <| s_n <| tk_seq <| s_r <| q_m rfl rfl <| tk_qe (.bool false) rfl rfl rfl (y_pnil rfl rfl rfl) (rfl) <| s_n <| tk_cond0 rfl <| tk_skip <| tk_then <| s_r <| q_m rfl rfl <| s_q rfl (y_loadA 16 rfl kR (by rfl) (hcw (.head _))) <| s_q rfl (y_build (v := .agg (flowCs kb [a0, a1, a2, a3, a4, a5, a6, a7, a8, a9, a10, a11, a12, a13, a14, a15] 0).toArray) rfl (fun _ => kR)) <| tk_act rfl <| a_boxL rfl rfl fun b11 => q_a rfl rfl <| q_a rfl rfl <| s_n ?_; exact tk_retc <| tk_ret b11 trivial (.inl rfl) (r2 rfl rfl rfl) (List.Sublist.cons_cons _ (List.nil_sublist _))
theorem hroA {c : Cx} {H : List Res} {b q : Nat} {l : List UInt8} (h0 : ∀ j, j < l.length → c.w0.cell? ⟨b, q + j, none⟩ = some (B (l.getD j 0))) (hE : ¬ c.E b) : ∀ w, St c w H → ∀ (j : Nat) (u : Value), (l.map B)[j]? = some u → w.cell? ((⟨b, q, none⟩ : Addr).add j) = some u := fun w hw j u hj => by
  rw [add_w]
  rw [List.getElem?_map] at hj
  cases hl : l[j]? with
  | none => rw [hl] at hj; cases hj
  | some a =>
    rw [hl] at hj; cases hj
    have := hw.fr.cell (h0 j (List.getElem?_eq_some_iff.1 hl).1) hE
    rw [List.getD_eq_getElem?_getD, hl] at this
    exact this
set_option maxHeartbeats 400000 in
theorem block_spec (fb kb n : Nat) (K N : List UInt8) (w : World) (hN : N.length = 16) (hn : n < 2 ^ 63) (hf0 : w.cell? ⟨fb, 0, none⟩ = some (PT kb)) (hfn : ∀ j, j < N.length → w.cell? ⟨fb, 1 + j, none⟩ = some (B (N.getD j 0)))
    (hk : ∀ j, j < 240 → w.cell? ⟨kb, j, none⟩ = some (B (K.getD j 0))) :
    Spec Tryz.prog 262 [PT fb, I (n : Int)] w [] (fun _ : Unit => True) (fun _ => Ag (turn K (plus N n))) (fun _ => []) := by
  refine spec_of (n := 40) Tryz.func262 rfl rfl trivial trivial rfl <| s_r <| tk_act rfl <| a_allocL (cs := (List.replicate 16 0).map B) kR rfl fun b4 => s_n <| s_r <| q_m rfl rfl <| s_q rfl (y_nilCheck rfl) <| tk_qe (.pointer (some ⟨fb, 1, none⟩)) rfl rfl rfl (y_fldN 1 rfl kR) (rfl) <| s_q rfl (y_loadA 16 rfl kR (by simp [hN]) (hroA hfn (fun h => h))) <| tk_act rfl <| a_allocL (cs := (List.replicate 16 0).map B) kR rfl fun b5 => tk_act rfl <| a_storeW (H1 := []) 16 rfl rfl kR rfl ⟨by simp [hN], by simp⟩ oneB <| s_n <| s_r <| q_m rfl rfl <| s_q rfl (y_convi64 rfl rfl rfl (wrap_u64 oM)) <| q_a rfl rfl <| s_n <| tk_seqI (X := Unit) (fun _ => True) (fun _ => [(0, PT fb), (4, PT b4), (5, PT b5)]) (fun _ => [cel b5 ((plus N n).map B) 210, cel b4 ((List.replicate 16 0).map B) 210]) ?_ ?_
  · refine s_r <| q_a rfl rfl <| s_n <| tk_block <| tk_loop (X := Nat) (fun k => k ≤ 16) (fun k => [(0, PT fb), (4, PT b4), (5, PT b5), (6, .int .u64 ((plusTo N n k).2 : Int)), (7, I (15 - (k : Int)))]) (fun k => [cel b5 ((plusTo N n k).1.map B) 210, cel b4 ((List.replicate 16 0).map B) 210]) (fun k => 16 - k) (0) oM sB (List.Sublist.refl _) ?_
    intro k hI
    have hcr := plusTo_lt (N := N) (n := n) (k := k) hn
    have hb8 := b_lt ((plusTo N n k).1.getD (15 - k) 0)
    refine tk_seq <| s_r <| q_m rfl rfl <| tk_qs rfl rfl rfl (y_geq rfl rfl) (fun hs4_1 => ?_) (fun hs4_1 => ?_)
    · refine q_m rfl rfl <| s_g rfl (y_move rfl) <| tk_gqs rfl rfl rfl (y_gtr rfl rfl) (fun hs4_4 => ?_) (fun hs4_4 => ?_)
      · refine s_q rfl (y_pick1 rfl rfl) <| s_n <| tk_cond1 rfl <| tk_skip <| tk_then <| tk_seq <| tk_block <| s_r <| q_m rfl rfl <| q_m rfl rfl <| s_q rfl (y_ixA0I 16 (15 - k) rfl rfl kR oM) <| s_q rfl (y_load rfl rfl (hc (.head _) (getB (by simp [hN] <;> omega)))) <| s_q rfl (y_convi64 rfl rfl rfl (wrap_u64 oM)) <| s_q rfl (y_addU rfl rfl oM) <| q_a rfl rfl <| s_n <| s_r <| q_m rfl rfl <| q_m rfl rfl <| s_q rfl (y_convi8 rfl rfl rfl) <| s_q rfl (y_ixA0I 16 (15 - k) rfl rfl kR oM) <| tk_act rfl ?_; (first | refine a_store1B (H1 := []) rfl rfl kR rfl (by simp [hN] <;> omega) ?_ | refine a_store1B (H1 := [_]) rfl rfl kR rfl (by simp [hN] <;> omega) ?_); refine s_n <| tk_region <| q_m rfl rfl <| s_q rfl (y_shrN (m := 8) rfl rfl dC) <| q_a rfl rfl <| tk_nil <| tk_in_normal <| tk_then <| tk_region <| q_m rfl rfl <| tk_qe (I (15 - ((k + 1 : Nat) : Int))) rfl rfl rfl (y_subI rfl rfl oM) (by congr 1; omega) <| q_a rfl rfl <| tk_nil <| tk_again (k + 1) oM oM ⟨rfl, rfl, rfl, ?_, rfl, trivial⟩ ?_
        · simp only [plusTo]; rw [if_neg oM]; rfl
        · simp only [plusTo]; rw [if_neg oM]; exact List.Sublist.refl _
      · refine s_q rfl (y_pick1 rfl rfl) <| s_n <| tk_cond0 rfl <| tk_exit <| tk_then_exit <| tk_then_exit <| tk_in_hit <| tk_to () trivial sB (by rw [plus_at (k := k) oM oM]; exact List.Sublist.refl _)
    · refine q_m rfl rfl <| tk_gno rfl rfl rfl <| tk_gno rfl rfl rfl <| s_q rfl (y_pick0 rfl rfl) <| s_n <| tk_cond0 rfl <| tk_exit <| tk_then_exit <| tk_then_exit <| tk_in_hit <| tk_to () trivial sB (by rw [plus_at (k := k) oM oM]; exact List.Sublist.refl _)
  · intro _ _
    refine tk_seq <| tk_drawS [5, 6] kR <| s_x 0 rfl (y_move rfl) <| s_x 1 rfl (y_nilCheck rfl) <| s_x 2 rfl (y_fld0 rfl kR) <| s_l 3 rfl (fun _ h => h) (y_load rfl rfl (hro hf0 (fun h => h))) ?_
    (first | refine s_l 4 rfl (fun _ h => h) (y_loadA 16 rfl kR (by simp [hN]) (hcw (.head _))) ?_ | refine s_l 4 rfl (fun _ h => h) (y_loadA 16 rfl kR (by simp [hN]) (hcw (mm 1 rfl))) ?_)
    exact tx_x 5 rfl kR rfl rfl <| a_callv [] _ rfl kR rfl (fun w' hw' => turn_spec kb K _ w' (by simp [hN]) (fun j hj => hw'.fr.cell (hk j hj) (fun h => h))) rfl fun _ _ => tx_x 6 rfl kR rfl rfl <| a_storeW (H1 := [_]) 16 rfl rfl kR rfl ⟨by simp [hN], by simp⟩ oneB <| tx_done kR <| tk_then <| tk_retc <| tk_ret () trivial (.inl rfl) (rc rfl rfl (by simp [hN]; kernel_rfl) (hcw (mm 1 rfl))) (List.nil_sublist _)
end Go.Proofs.YtnhpghhibcdklaaGreatDoor.Cip

/- Texts of the claim IndexWrites, part 2 of 5: SumA, SumB, SumC, SumD, RowKitZ, CipPure, CipPlus, CipRef, CipRefB, CipRefC, CipApp, WaxPure, KeyPure, PackPure, EngThree. Own work. -/
import Derived.Deep.Slices
import Derived.KernelRfl
import Derived.LaidMore
import Derived.Lay
import Derived.Lib.AppendZeros
import Derived.MakeChecks
import Derived.SevenTiedAt
import Derived.Stop.Joined
import Derived.Test.YtkkjfojgjmglpaaGreatDoorCards
import Derived.Test.YtkkjfojgjmglpaaGreatDoorTie
import Derived.Test.YtkkjfojgjmglpaaGreatDoorPtIndexWrites1
set_option linter.unusedSimpArgs false
set_option linter.unusedVariables false
namespace Go.Proofs.YtkkjfojgjmglpaaGreatDoor
open Go Go.RowKit
set_option maxRecDepth 100000
attribute [local irreducible] sched schedZ rounds rr addI blockF
theorem stepsL_len : stepsL.length = 64 := rfl
/-- the words that the program lays -/
def glob : Res where
  fp k := k = 0 ∨ k = 1
  holds w := (∀ (j : Nat) (v : Value), (beginL.map W4)[j]? = some v → w.cell? ⟨0, j, none⟩ = some v) ∧ (∀ (j : Nat) (v : Value), (stepsL.map W4)[j]? = some v → w.cell? ⟨1, j, none⟩ = some v)
  loc w w' h hh := ⟨fun j v hv => by
    have := hh.1 j v hv
    simp only [World.cell?] at this ⊢
    rw [h 0 (.inl rfl)]; exact this, fun j v hv => by
    have := hh.2 j v hv
    simp only [World.cell?] at this ⊢
    rw [h 1 (.inr rfl)]; exact this⟩
  bnd w hh k hk := by
    rcases hk with rfl | rfl
    · exact World.block_lt_of_cell? w _ (hh.1 0 _ rfl)
    · exact World.block_lt_of_cell? w _ (hh.2 0 _ rfl)
theorem rot_and {n : Nat} (h : 1 ≤ n ∧ n ≤ 31) : Value.int .u64 (bits .and .u64 (IntKind.u64.wrap (-((n : Nat) : Int))) 31) = .int .u64 ((32 - n : Nat) : Int) := by
  have e1 : IntKind.u64.wrap (-((n : Nat) : Int)) = ((18446744073709551616 - n : Nat) : Int) := by rw [IntKind.wrap_u64]; omega
  have e2 : (31 : Int) = ((31 : Nat) : Int) := rfl
  rw [e1, e2, u64_and_nat _ _ (by omega) (by omega)]
  have e3 : (18446744073709551616 - n) &&& 31 = (18446744073709551616 - n) % 32 := Nat.and_two_pow_sub_one_eq_mod _ 5
  rw [e3]; congr 1; omega
theorem rot_sub {n : Nat} (h : 1 ≤ n ∧ n ≤ 31) : Value.int .u64 (IntKind.u64.wrap (32 - ((32 - n : Nat) : Int))) = .int .u64 ((n : Nat) : Int) := by
  rw [IntKind.wrap_u64]; congr 1; omega
theorem rot_spec (a : UInt32) (n : Nat) {w : World} (h : 1 ≤ n ∧ n ≤ 31) : Spec Tryz.prog 188 [W4 a, I (-((n : Nat) : Int))] w [] (fun _ : Unit => True) (fun _ => W4 (rr a n)) (fun _ => []) := by
  refine spec_of (n := 17) Tryz.func188 rfl rfl trivial trivial rfl ?_; refine s_r ?_; refine s_q rfl (y_assign rfl) ?_; refine s_n ?_; refine s_r ?_; refine s_q rfl (y_move rfl) ?_; refine s_q rfl (y_conv rfl rfl rfl) ?_; refine s_q rfl ((y_bits rfl rfl (by simp)).cast (rot_and h)) ?_; refine s_q rfl (y_assign rfl) ?_; refine s_n ?_; refine s_r ?_; refine s_q rfl (y_move rfl) ?_; refine s_q rfl (y_move rfl) ?_
  refine s_q rfl (y_shlW (a := a) (m := 32 - n) rfl rfl (by omega)) ?_; refine s_q rfl (y_move rfl) ?_; refine s_q rfl (y_move rfl) ?_; refine s_q rfl ((y_sub rfl rfl).cast (rot_sub h)) ?_; refine s_q rfl (y_shrW (a := a) (m := n) rfl rfl (by omega)) ?_; refine tk_qe (W4 (rr a n)) rfl rfl rfl (y_orW (a := a <<< UInt32.ofNat (32 - n)) (b := a >>> UInt32.ofNat n) rfl rfl) (congrArg W4 (rr_def a n)) ?_
  refine s_q rfl (y_assign rfl) ?_; refine s_n ?_; refine tk_retc ?_
  exact tk_ret (()) (trivial) (.inl rfl) (r1 rfl rfl) (List.Sublist.refl _)
set_option maxHeartbeats 1000000 in
theorem turn_spec {sb n : Nat} {R : List UInt32} {W : List UInt8} {w : World} (hR : R.length = 8) (hW : W.length = 64) (hg : Ro (Fs [cel sb (R.map W4 ++ (W.map B ++ [I ((n : Nat) : Int)])) 214]) w glob)
    (hh : Pre w [cel sb (R.map W4 ++ (W.map B ++ [I ((n : Nat) : Int)])) 214]) :
    Spec Tryz.prog 154 [.pointer (some ⟨sb, 0, none⟩)] w [cel sb (R.map W4 ++ (W.map B ++ [I ((n : Nat) : Int)])) 214] (fun _ : Unit => True) (fun _ => .tuple #[])
      (fun _ => [cel sb ((blockF R W).map W4 ++ (W.map B ++ [I ((n : Nat) : Int)])) 214]) := by
  refine spec_of (n := 180) Tryz.func154 rfl rfl hh.1 hh.2 rfl ?_
  have h8 := stepsL_len
  refine s_r ?_; refine tk_act rfl ?_; refine a_allocL (cs := (List.replicate 64 0).map W4) (by kernel_rfl) rfl fun b2 => ?_; refine s_n ?_; refine tk_seq ?_; refine s_r ?_; refine s_q rfl (y_move rfl) ?_; refine s_n ?_; refine tk_block ?_; refine tk_H [cel b2 ((schedZ W 0).map W4) 293, cel sb (R.map W4 ++ (W.map B ++ ([I ((n : Nat) : Int)]))) 214] (congrArg (fun z_ => [cel b2 z_ 293, cel sb (R.map W4 ++ (W.map B ++ ([I ((n : Nat) : Int)]))) 214]) (show (List.replicate 64 0).map W4 = (schedZ W 0).map W4 from by rw [schedZ_0])) ?_
  refine tk_loop (X := Nat) (fun i => i ≤ 64) (fun i => [(0, .pointer (some ⟨sb, 0, none⟩)), (2, .pointer (some ⟨b2, 0, none⟩)), (15, I ((i : Nat) : Int))]) (fun i => [cel b2 ((schedZ W i).map W4) 293, cel sb (R.map W4 ++ (W.map B ++ ([I ((n : Nat) : Int)]))) 214]) (fun i => 64 - i) (0) (by first | exact trivial | omega | (dsimp only; omega)) (by repeat (first | exact trivial | refine ⟨rfl, ?_⟩)) ((List.Sublist.refl _)) ?_
  rintro i hI
  try dsimp only at hI ⊢
  have hz : (schedZ W i).length = 64 := schedZ_len (by omega)
  refine s_r ?_; refine s_q rfl (y_lss rfl rfl) ?_; refine s_n ?_; refine tk_seq ?_; refine tk_condP rfl (fun ht16 => ?_) (fun ht16 => ?_)
  · skip
    refine tk_skip ?_; refine tk_then ?_; refine tk_seq ?_; refine tk_block ?_; refine s_r ?_; refine s_q rfl (y_move rfl) ?_; refine s_q rfl (y_assign rfl) ?_; refine s_n ?_; refine tk_seq ?_; refine s_r ?_; refine s_q rfl (y_move rfl) ?_; refine s_q rfl (y_lss rfl rfl) ?_; refine s_n ?_; refine tk_condP rfl (fun ht19 => ?_) (fun ht19 => ?_)
    · skip
      refine s_r ?_; refine s_q rfl (y_move rfl) ?_; refine s_q rfl (y_nilCheck rfl) ?_; refine s_q rfl (y_fldN (o := 0) 8 rfl (by kernel_rfl)) ?_; refine s_q rfl (y_move rfl) ?_; refine s_q rfl (y_mulN (a := 4) (b := i) rfl rfl (by omega)) ?_; refine s_q rfl (y_cutAlN1 (o := 8) 64 1 (4 * i) rfl rfl (by kernel_rfl) ⟨rfl, (by omega)⟩) ?_; refine s_q rfl (y_assign rfl) ?_; refine s_n ?_; refine tk_seq ?_
      refine tk_drawH [cel sb (R.map W4 ++ (W.map B ++ ([I ((n : Nat) : Int)]))) 214] [] (by kernel_rfl) ?_; refine s_x 0 rfl (y_move rfl) ?_; refine s_x 1 rfl (y_move rfl) ?_; refine s_x 2 rfl (y_ixSN 1 (o := 8 + 4 * i) (i := 0) rfl rfl (by kernel_rfl) (by omega)) ?_; refine s_l 3 rfl (fun _ h => h.sub (.cons _ (List.Sublist.refl _))) (y_load rfl rfl (hc (o := 8 + 4 * i) (.head _) (gA (k := 8) (i := 4 * i) lenP (by omega) (gM1 (d := 0) lenP)))) ?_
      refine s_x 4 rfl (y_conv8W (a := W.getD (4 * i) 0) rfl rfl rfl) ?_; refine s_x 5 rfl (y_shlW (a := (W.getD (4 * i) 0).toUInt32) (m := 24) rfl rfl (by decide)) ?_; refine s_x 6 rfl (y_move rfl) ?_; refine s_x 7 rfl (y_ixSN 1 (o := 8 + 4 * i) (i := 1) rfl rfl (by kernel_rfl) (by omega)) ?_; refine s_l 8 rfl (fun _ h => h.sub (.cons _ (List.Sublist.refl _))) (y_load rfl rfl (hc (o := 8 + 4 * i + 1) (.head _) (gA (k := 8) (i := 4 * i + 1) lenP (by omega) (gM1 (d := 0) lenP)))) ?_
      refine s_x 9 rfl (y_conv8W (a := W.getD (4 * i + 1) 0) rfl rfl rfl) ?_; refine s_x 10 rfl (y_shlW (a := (W.getD (4 * i + 1) 0).toUInt32) (m := 16) rfl rfl (by decide)) ?_; refine s_x 11 rfl (y_orW (a := ((W.getD (4 * i) 0).toUInt32) <<< UInt32.ofNat 24) (b := ((W.getD (4 * i + 1) 0).toUInt32) <<< UInt32.ofNat 16) rfl rfl) ?_; refine s_x 12 rfl (y_move rfl) ?_; refine s_x 13 rfl (y_ixSN 1 (o := 8 + 4 * i) (i := 2) rfl rfl (by kernel_rfl) (by omega)) ?_
      refine s_l 14 rfl (fun _ h => h.sub (.cons _ (List.Sublist.refl _))) (y_load rfl rfl (hc (o := 8 + 4 * i + 2) (.head _) (gA (k := 8) (i := 4 * i + 2) lenP (by omega) (gM1 (d := 0) lenP)))) ?_; refine s_x 15 rfl (y_conv8W (a := W.getD (4 * i + 2) 0) rfl rfl rfl) ?_; refine s_x 16 rfl (y_shlW (a := (W.getD (4 * i + 2) 0).toUInt32) (m := 8) rfl rfl (by decide)) ?_; refine s_x 17 rfl (y_orW (a := (((W.getD (4 * i) 0).toUInt32) <<< UInt32.ofNat 24) ||| (((W.getD (4 * i + 1) 0).toUInt32) <<< UInt32.ofNat 16)) (b := ((W.getD (4 * i + 2) 0).toUInt32) <<< UInt32.ofNat 8) rfl rfl) ?_
      refine s_x 18 rfl (y_move rfl) ?_; refine s_x 19 rfl (y_ixSN 1 (o := 8 + 4 * i) (i := 3) rfl rfl (by kernel_rfl) (by omega)) ?_; refine s_l 20 rfl (fun _ h => h.sub (.cons _ (List.Sublist.refl _))) (y_load rfl rfl (hc (o := 8 + 4 * i + 3) (.head _) (gA (k := 8) (i := 4 * i + 3) lenP (by omega) (gM1 (d := 0) lenP)))) ?_; refine s_x 21 rfl (y_conv8W (a := W.getD (4 * i + 3) 0) rfl rfl rfl) ?_; refine s_x 22 rfl (y_orW (a := ((((W.getD (4 * i) 0).toUInt32) <<< UInt32.ofNat 24) ||| (((W.getD (4 * i + 1) 0).toUInt32) <<< UInt32.ofNat 16)) ||| (((W.getD (4 * i + 2) 0).toUInt32) <<< UInt32.ofNat 8)) (b := (W.getD (4 * i + 3) 0).toUInt32) rfl rfl) ?_
      refine s_x 23 rfl (y_ixA01 64 (i := i) rfl rfl (by kernel_rfl) (by omega)) ?_; refine tx_a 24 rfl (by kernel_rfl) rfl ?_; refine a_storeE (H1 := []) (o := i) (v := W4 ((((((W.getD (4 * i) 0).toUInt32) <<< UInt32.ofNat 24) ||| (((W.getD (4 * i + 1) 0).toUInt32) <<< UInt32.ofNat 16)) ||| (((W.getD (4 * i + 2) 0).toUInt32) <<< UInt32.ofNat 8)) ||| ((W.getD (4 * i + 3) 0).toUInt32))) (cs' := ((schedZ W i).set i ((((((W.getD (4 * i) 0).toUInt32) <<< UInt32.ofNat 24) ||| (((W.getD (4 * i + 1) 0).toUInt32) <<< UInt32.ofNat 16)) ||| (((W.getD (4 * i + 2) 0).toUInt32) <<< UInt32.ofNat 8)) ||| ((W.getD (4 * i + 3) 0).toUInt32))).map W4) rfl rfl (by kernel_rfl) rfl rfl (by first | (simp; done) | (simp; omega)) (sM) ?_
      refine tk_S (fun _ h => h.sub (.cons _ (List.Sublist.refl _))) ?_; refine tx_done (by kernel_rfl) ?_; refine tk_then ?_; refine tk_exit ?_; refine tk_then_exit ?_; refine tk_in_hit ?_; refine tk_then ?_; refine tk_region ?_; refine s_q rfl (y_addN (a := i) (b := 1) rfl rfl (by omega)) ?_; refine s_q rfl (y_move rfl) ?_; refine tk_nil ?_; refine tk_H [cel b2 ((schedZ W (i + 1)).map W4) 293, cel sb (R.map W4 ++ (W.map B ++ ([I ((n : Nat) : Int)]))) 214] (congrArg (fun z_ => [cel b2 z_ 293, cel sb (R.map W4 ++ (W.map B ++ ([I ((n : Nat) : Int)]))) 214]) (show ((schedZ W i).set i ((((((W.getD (4 * i) 0).toUInt32) <<< UInt32.ofNat 24) ||| (((W.getD (4 * i + 1) 0).toUInt32) <<< UInt32.ofNat 16)) ||| (((W.getD (4 * i + 2) 0).toUInt32) <<< UInt32.ofNat 8)) ||| ((W.getD (4 * i + 3) 0).toUInt32))).map W4 = (schedZ W (i + 1)).map W4 from congrArg (List.map W4) (schedZ_lo (by omega) (by omega)))) ?_
      exact tk_again (i + 1) (by first | exact trivial | omega | (dsimp only; omega)) (by first | omega | (dsimp only; omega)) (by repeat (first | exact trivial | refine ⟨rfl, ?_⟩)) (List.Sublist.refl _)
    · skip
      refine tk_skip ?_; refine tk_then ?_; refine tk_seq ?_; refine tk_drawH [cel b2 ((schedZ W i).map W4) 293, cel sb (R.map W4 ++ (W.map B ++ ([I ((n : Nat) : Int)]))) 214] [] (by kernel_rfl) ?_; refine s_x 0 rfl (y_move rfl) ?_; refine s_x 1 rfl (y_subN (a := i) (b := 15) rfl rfl (by omega)) ?_; refine s_x 2 rfl (y_ixA01 64 (i := i - 15) rfl rfl (by kernel_rfl) (by omega)) ?_; refine s_l 3 rfl (fun _ h => h.sub (List.Sublist.refl _)) (y_load rfl rfl (hc (o := i - 15) (.head _) (gM (d := 0) lenP))) ?_
      refine s_x 4 rfl (y_move rfl) ?_; refine s_x 5 rfl (y_subN (a := i) (b := 2) rfl rfl (by omega)) ?_; refine s_x 6 rfl (y_ixA01 64 (i := i - 2) rfl rfl (by kernel_rfl) (by omega)) ?_; refine s_l 7 rfl (fun _ h => h.sub (List.Sublist.refl _)) (y_load rfl rfl (hc (o := i - 2) (.head _) (gM (d := 0) lenP))) ?_; refine s_x 8 rfl (y_assign rfl) ?_; refine s_x 9 rfl (y_assign rfl) ?_; refine tx_done (by kernel_rfl) ?_
      refine tk_then ?_; refine tk_drawH [cel b2 ((schedZ W i).map W4) 293, cel sb (R.map W4 ++ (W.map B ++ ([I ((n : Nat) : Int)]))) 214] [29] (by kernel_rfl) ?_; refine s_x 0 rfl (y_move rfl) ?_; refine s_x 1 rfl (y_move rfl) ?_; refine s_x 2 rfl (y_subN (a := i) (b := 16) rfl rfl (by omega)) ?_; refine s_x 3 rfl (y_ixA01 64 (i := i - 16) rfl rfl (by kernel_rfl) (by omega)) ?_; refine s_l 4 rfl (fun _ h => h.sub (List.Sublist.refl _)) (y_load rfl rfl (hc (o := i - 16) (.head _) (gM (d := 0) lenP))) ?_
      refine s_x 5 rfl (y_move rfl) ?_; refine s_x 6 rfl (y_subN (a := i) (b := 7) rfl rfl (by omega)) ?_; refine s_x 7 rfl (y_ixA01 64 (i := i - 7) rfl rfl (by kernel_rfl) (by omega)) ?_; refine s_l 8 rfl (fun _ h => h.sub (List.Sublist.refl _)) (y_load rfl rfl (hc (o := i - 7) (.head _) (gM (d := 0) lenP))) ?_; refine s_x 9 rfl (y_addW (a := (schedZ W i).getD (i - 16) 0) (b := (schedZ W i).getD (i - 7) 0) rfl rfl) ?_
      refine s_x 10 rfl (y_move rfl) ?_; refine s_x 12 rfl (y_move rfl) ?_; refine s_x 15 rfl (y_move rfl) ?_; refine s_x 16 rfl (y_shrW (a := (schedZ W i).getD (i - 15) 0) (m := 3) rfl rfl (by decide)) ?_; refine s_x 19 rfl (y_move rfl) ?_; refine s_x 21 rfl (y_move rfl) ?_; refine s_x 24 rfl (y_move rfl) ?_; refine s_x 25 rfl (y_shrW (a := (schedZ W i).getD (i - 2) 0) (m := 10) rfl rfl (by decide)) ?_
      refine tx_a 11 rfl (by kernel_rfl) rfl ?_; refine a_callv [] _ rfl (by kernel_rfl) rfl (fun w' hw' => rot_spec ((schedZ W i).getD (i - 15) 0) 7 (by decide)) rfl fun _ _ => ?_; refine tk_S (fun _ h => h.sub (List.Sublist.refl _)) ?_; refine tx_a 13 rfl (by kernel_rfl) rfl ?_; refine a_callv [] _ rfl (by kernel_rfl) rfl (fun w' hw' => rot_spec ((schedZ W i).getD (i - 15) 0) 18 (by decide)) rfl fun _ _ => ?_
      refine tk_S (fun _ h => h.sub (List.Sublist.refl _)) ?_; refine s_x 14 rfl (y_xorW (a := rr ((schedZ W i).getD (i - 15) 0) 7) (b := rr ((schedZ W i).getD (i - 15) 0) 18) rfl rfl) ?_; refine s_x 17 rfl (y_xorW (a := (rr ((schedZ W i).getD (i - 15) 0) 7) ^^^ (rr ((schedZ W i).getD (i - 15) 0) 18)) (b := ((schedZ W i).getD (i - 15) 0) >>> UInt32.ofNat 3) rfl rfl) ?_; refine s_x 18 rfl (y_addW (a := ((schedZ W i).getD (i - 16) 0) + ((schedZ W i).getD (i - 7) 0)) (b := ((rr ((schedZ W i).getD (i - 15) 0) 7) ^^^ (rr ((schedZ W i).getD (i - 15) 0) 18)) ^^^ (((schedZ W i).getD (i - 15) 0) >>> UInt32.ofNat 3)) rfl rfl) ?_
      refine tx_a 20 rfl (by kernel_rfl) rfl ?_; refine a_callv [] _ rfl (by kernel_rfl) rfl (fun w' hw' => rot_spec ((schedZ W i).getD (i - 2) 0) 17 (by decide)) rfl fun _ _ => ?_; refine tk_S (fun _ h => h.sub (List.Sublist.refl _)) ?_; refine tx_a 22 rfl (by kernel_rfl) rfl ?_; refine a_callv [] _ rfl (by kernel_rfl) rfl (fun w' hw' => rot_spec ((schedZ W i).getD (i - 2) 0) 19 (by decide)) rfl fun _ _ => ?_
      refine tk_S (fun _ h => h.sub (List.Sublist.refl _)) ?_; refine s_x 23 rfl (y_xorW (a := rr ((schedZ W i).getD (i - 2) 0) 17) (b := rr ((schedZ W i).getD (i - 2) 0) 19) rfl rfl) ?_; refine s_x 26 rfl (y_xorW (a := (rr ((schedZ W i).getD (i - 2) 0) 17) ^^^ (rr ((schedZ W i).getD (i - 2) 0) 19)) (b := ((schedZ W i).getD (i - 2) 0) >>> UInt32.ofNat 10) rfl rfl) ?_; refine s_x 27 rfl (y_addW (a := (((schedZ W i).getD (i - 16) 0) + ((schedZ W i).getD (i - 7) 0)) + (((rr ((schedZ W i).getD (i - 15) 0) 7) ^^^ (rr ((schedZ W i).getD (i - 15) 0) 18)) ^^^ (((schedZ W i).getD (i - 15) 0) >>> UInt32.ofNat 3))) (b := ((rr ((schedZ W i).getD (i - 2) 0) 17) ^^^ (rr ((schedZ W i).getD (i - 2) 0) 19)) ^^^ (((schedZ W i).getD (i - 2) 0) >>> UInt32.ofNat 10)) rfl rfl) ?_
      refine s_x 28 rfl (y_ixA01 64 (i := i) rfl rfl (by kernel_rfl) (by omega)) ?_; refine tx_x 29 rfl (by kernel_rfl) rfl rfl ?_; refine a_storeE (H1 := []) (o := i) (v := W4 (((((schedZ W i).getD (i - 16) 0) + ((schedZ W i).getD (i - 7) 0)) + (((rr ((schedZ W i).getD (i - 15) 0) 7) ^^^ (rr ((schedZ W i).getD (i - 15) 0) 18)) ^^^ (((schedZ W i).getD (i - 15) 0) >>> UInt32.ofNat 3))) + (((rr ((schedZ W i).getD (i - 2) 0) 17) ^^^ (rr ((schedZ W i).getD (i - 2) 0) 19)) ^^^ (((schedZ W i).getD (i - 2) 0) >>> UInt32.ofNat 10)))) (cs' := ((schedZ W i).set i (((((schedZ W i).getD (i - 16) 0) + ((schedZ W i).getD (i - 7) 0)) + (((rr ((schedZ W i).getD (i - 15) 0) 7) ^^^ (rr ((schedZ W i).getD (i - 15) 0) 18)) ^^^ (((schedZ W i).getD (i - 15) 0) >>> UInt32.ofNat 3))) + (((rr ((schedZ W i).getD (i - 2) 0) 17) ^^^ (rr ((schedZ W i).getD (i - 2) 0) 19)) ^^^ (((schedZ W i).getD (i - 2) 0) >>> UInt32.ofNat 10)))).map W4) rfl rfl (by kernel_rfl) rfl rfl (by first | (simp; done) | (simp; omega)) (sM) ?_
      refine tx_done (by kernel_rfl) ?_; refine tk_in_normal ?_; refine tk_then ?_; refine tk_region ?_; refine s_q rfl (y_addN (a := i) (b := 1) rfl rfl (by omega)) ?_; refine s_q rfl (y_move rfl) ?_; refine tk_nil ?_; refine tk_H [cel b2 ((schedZ W (i + 1)).map W4) 293, cel sb (R.map W4 ++ (W.map B ++ ([I ((n : Nat) : Int)]))) 214] (congrArg (fun z_ => [cel b2 z_ 293, cel sb (R.map W4 ++ (W.map B ++ ([I ((n : Nat) : Int)]))) 214]) (show ((schedZ W i).set i (((((schedZ W i).getD (i - 16) 0) + ((schedZ W i).getD (i - 7) 0)) + (((rr ((schedZ W i).getD (i - 15) 0) 7) ^^^ (rr ((schedZ W i).getD (i - 15) 0) 18)) ^^^ (((schedZ W i).getD (i - 15) 0) >>> UInt32.ofNat 3))) + (((rr ((schedZ W i).getD (i - 2) 0) 17) ^^^ (rr ((schedZ W i).getD (i - 2) 0) 19)) ^^^ (((schedZ W i).getD (i - 2) 0) >>> UInt32.ofNat 10)))).map W4 = (schedZ W (i + 1)).map W4 from congrArg (List.map W4) (schedZ_hi (by omega) (by omega)))) ?_
      exact tk_again (i + 1) (by first | exact trivial | omega | (dsimp only; omega)) (by first | omega | (dsimp only; omega)) (by repeat (first | exact trivial | refine ⟨rfl, ?_⟩)) (List.Sublist.refl _)
  · skip
    refine tk_H [cel b2 ((sched W 64).map W4) 293, cel sb (R.map W4 ++ (W.map B ++ ([I ((n : Nat) : Int)]))) 214] (congrArg (fun z_ => [cel b2 z_ 293, cel sb (R.map W4 ++ (W.map B ++ ([I ((n : Nat) : Int)]))) 214]) (show (schedZ W i).map W4 = (sched W 64).map W4 from by rw [show i = 64 by omega, schedZ_64])) ?_; refine tk_exit ?_; refine tk_then_exit ?_; refine tk_then_exit ?_; refine tk_in_hit ?_
    refine tk_then ?_; refine s_r ?_; refine s_q rfl (y_move rfl) ?_; refine s_q rfl (y_nilCheck rfl) ?_; refine s_q rfl (y_fld0 (o := 0) rfl (by kernel_rfl)) ?_; refine s_q rfl (y_loadA (vs := R.map W4) 8 rfl (by kernel_rfl) lenP (hseg (pre := ([] : List Value)) (post := W.map B ++ ([I ((n : Nat) : Int)])) (.tail _ (.head _)) lenP (by simp))) ?_; refine tk_act rfl ?_; refine a_allocL (cs := (List.replicate 8 0).map W4) (by kernel_rfl) rfl fun b7 => ?_
    refine tk_act rfl ?_; refine a_storeW (H1 := []) (vs := R.map W4) 8 rfl rfl (by kernel_rfl) rfl ⟨lenP, lenP⟩ oneW ?_; refine s_n ?_; refine tk_seq ?_; refine s_r ?_; refine s_q rfl (y_loadA 64 rfl (by kernel_rfl) lenP (hcw (.tail _ (.head _)))) ?_; refine s_q rfl (y_move rfl) ?_; refine s_n ?_; refine tk_block ?_; refine tk_H [cel b7 ((rounds R stepsL (sched W 64) 0).map W4) 211, cel b2 ((sched W 64).map W4) 293, cel sb (R.map W4 ++ (W.map B ++ ([I ((n : Nat) : Int)]))) 214] (congrArg (fun z_ => [cel b7 z_ 211, cel b2 ((sched W 64).map W4) 293, cel sb (R.map W4 ++ (W.map B ++ ([I ((n : Nat) : Int)]))) 214]) (show R.map W4 = (rounds R stepsL (sched W 64) 0).map W4 from by rw [rounds_0])) ?_
    refine tk_loop (X := Nat) (fun i => i ≤ 64) (fun i => [(0, .pointer (some ⟨sb, 0, none⟩)), (7, .pointer (some ⟨b7, 0, none⟩)), (92, .agg ((sched W 64).map W4).toArray), (93, I ((i : Nat) : Int))]) (fun i => [cel b7 ((rounds R stepsL (sched W 64) i).map W4) 211, cel b2 ((sched W 64).map W4) 293, cel sb (R.map W4 ++ (W.map B ++ ([I ((n : Nat) : Int)]))) 214]) (fun i => 64 - i) (0) (by first | exact trivial | omega | (dsimp only; omega)) (by repeat (first | exact trivial | refine ⟨rfl, ?_⟩)) ((List.Sublist.refl _)) ?_
    rintro i hI
    try dsimp only at hI ⊢
    have hv : (rounds R stepsL (sched W 64) i).length = 8 := rounds_len hR i
    have hz : (sched W 64).length = 64 := sched_len _ _
    refine s_r ?_; refine s_q rfl (y_lss rfl rfl) ?_; refine s_n ?_; refine tk_seq ?_; refine tk_condP rfl (fun ht94 => ?_) (fun ht94 => ?_)
    · skip
      refine tk_skip ?_; refine tk_then ?_; refine tk_seq ?_; refine tk_block ?_; refine s_r ?_; refine s_q rfl (y_move rfl) ?_; refine s_q rfl (y_ixVM (d0 := 0) (i := i) rfl rfl rfl rfl (fun _ => by kernel_rfl) (by omega) lenP) ?_; refine s_q rfl (y_assign rfl) ?_; refine s_q rfl (y_assign rfl) ?_; refine s_n ?_; refine tk_seq ?_; refine tk_drawH [cel b7 ((rounds R stepsL (sched W 64) i).map W4) 211, cel b2 ((sched W 64).map W4) 293, cel sb (R.map W4 ++ (W.map B ++ ([I ((n : Nat) : Int)]))) 214] [] (by kernel_rfl) ?_
      refine s_x 0 rfl (y_ixAN 8 1 (o := 0) (i := 0) rfl rfl (by kernel_rfl) (by omega)) ?_; refine s_l 1 rfl (fun _ h => h.sub (List.Sublist.refl _)) (y_load rfl rfl (hc (o := 0) (.head _) (gM (d := 0) lenP))) ?_; refine s_x 2 rfl (y_ixAN 8 1 (o := 0) (i := 4) rfl rfl (by kernel_rfl) (by omega)) ?_; refine s_l 3 rfl (fun _ h => h.sub (List.Sublist.refl _)) (y_load rfl rfl (hc (o := 4) (.head _) (gM (d := 0) lenP))) ?_
      refine s_x 4 rfl (y_assign rfl) ?_; refine s_x 5 rfl (y_assign rfl) ?_; refine tx_done (by kernel_rfl) ?_; refine tk_then ?_; refine tk_seq ?_; refine tk_drawH [cel b7 ((rounds R stepsL (sched W 64) i).map W4) 211, cel b2 ((sched W 64).map W4) 293, cel sb (R.map W4 ++ (W.map B ++ ([I ((n : Nat) : Int)]))) 214] [] (by kernel_rfl) ?_; refine s_x 0 rfl (y_ixAN 8 1 (o := 0) (i := 7) rfl rfl (by kernel_rfl) (by omega)) ?_
      refine s_l 1 rfl (fun _ h => h.sub (List.Sublist.refl _)) (y_load rfl rfl (hc (o := 7) (.head _) (gM (d := 0) lenP))) ?_; refine s_x 2 rfl (y_move rfl) ?_; refine s_x 4 rfl (y_move rfl) ?_; refine s_x 7 rfl (y_move rfl) ?_; refine s_x 11 rfl (y_ixAN 8 1 (o := 0) (i := 6) rfl rfl (by kernel_rfl) (by omega)) ?_; refine s_l 12 rfl (fun _ h => h.sub (List.Sublist.refl _)) (y_load rfl rfl (hc (o := 6) (.head _) (gM (d := 0) lenP))) ?_
      refine s_x 13 rfl (y_move rfl) ?_; refine s_x 14 rfl (y_ixAN 8 1 (o := 0) (i := 5) rfl rfl (by kernel_rfl) (by omega)) ?_; refine s_l 15 rfl (fun _ h => h.sub (List.Sublist.refl _)) (y_load rfl rfl (hc (o := 5) (.head _) (gM (d := 0) lenP))) ?_; refine s_x 16 rfl (y_ixAN 8 1 (o := 0) (i := 6) rfl rfl (by kernel_rfl) (by omega)) ?_; refine s_l 17 rfl (fun _ h => h.sub (List.Sublist.refl _)) (y_load rfl rfl (hc (o := 6) (.head _) (gM (d := 0) lenP))) ?_
      refine s_x 18 rfl (y_xorW (a := (rounds R stepsL (sched W 64) i).getD 5 0) (b := (rounds R stepsL (sched W 64) i).getD 6 0) rfl rfl) ?_; refine s_x 19 rfl (y_andW (a := (rounds R stepsL (sched W 64) i).getD 4 0) (b := ((rounds R stepsL (sched W 64) i).getD 5 0) ^^^ ((rounds R stepsL (sched W 64) i).getD 6 0)) rfl rfl) ?_; refine s_x 20 rfl (y_xorW (a := (rounds R stepsL (sched W 64) i).getD 6 0) (b := ((rounds R stepsL (sched W 64) i).getD 4 0) &&& (((rounds R stepsL (sched W 64) i).getD 5 0) ^^^ ((rounds R stepsL (sched W 64) i).getD 6 0))) rfl rfl) ?_
      refine s_x 22 rfl (y_move rfl) ?_; refine s_x 23 rfl (y_ixA01 64 (i := i) rfl rfl (by kernel_rfl) (by omega)) ?_; refine s_l 24 rfl (fun _ h => h.sub (List.Sublist.refl _)) (y_load rfl rfl (fun w hw => (Ro.st (p := glob) hg hw).2 _ _ (gM (d := 0) (by rw [stepsL_len]; omega)))) ?_; refine s_x 26 rfl (y_move rfl) ?_; refine tx_a 3 rfl (by kernel_rfl) rfl ?_; refine a_callv [] _ rfl (by kernel_rfl) rfl (fun w' hw' => rot_spec ((rounds R stepsL (sched W 64) i).getD 4 0) 6 (by decide)) rfl fun _ _ => ?_
      refine tk_S (fun _ h => h.sub (List.Sublist.refl _)) ?_; refine tx_a 5 rfl (by kernel_rfl) rfl ?_; refine a_callv [] _ rfl (by kernel_rfl) rfl (fun w' hw' => rot_spec ((rounds R stepsL (sched W 64) i).getD 4 0) 11 (by decide)) rfl fun _ _ => ?_; refine tk_S (fun _ h => h.sub (List.Sublist.refl _)) ?_; refine s_x 6 rfl (y_xorW (a := rr ((rounds R stepsL (sched W 64) i).getD 4 0) 6) (b := rr ((rounds R stepsL (sched W 64) i).getD 4 0) 11) rfl rfl) ?_
      refine tx_a 8 rfl (by kernel_rfl) rfl ?_; refine a_callv [] _ rfl (by kernel_rfl) rfl (fun w' hw' => rot_spec ((rounds R stepsL (sched W 64) i).getD 4 0) 25 (by decide)) rfl fun _ _ => ?_; refine tk_S (fun _ h => h.sub (List.Sublist.refl _)) ?_; refine s_x 9 rfl (y_xorW (a := (rr ((rounds R stepsL (sched W 64) i).getD 4 0) 6) ^^^ (rr ((rounds R stepsL (sched W 64) i).getD 4 0) 11)) (b := rr ((rounds R stepsL (sched W 64) i).getD 4 0) 25) rfl rfl) ?_
      refine s_x 10 rfl (y_addW (a := (rounds R stepsL (sched W 64) i).getD 7 0) (b := ((rr ((rounds R stepsL (sched W 64) i).getD 4 0) 6) ^^^ (rr ((rounds R stepsL (sched W 64) i).getD 4 0) 11)) ^^^ (rr ((rounds R stepsL (sched W 64) i).getD 4 0) 25)) rfl rfl) ?_; refine s_x 21 rfl (y_addW (a := ((rounds R stepsL (sched W 64) i).getD 7 0) + (((rr ((rounds R stepsL (sched W 64) i).getD 4 0) 6) ^^^ (rr ((rounds R stepsL (sched W 64) i).getD 4 0) 11)) ^^^ (rr ((rounds R stepsL (sched W 64) i).getD 4 0) 25))) (b := ((rounds R stepsL (sched W 64) i).getD 6 0) ^^^ (((rounds R stepsL (sched W 64) i).getD 4 0) &&& (((rounds R stepsL (sched W 64) i).getD 5 0) ^^^ ((rounds R stepsL (sched W 64) i).getD 6 0)))) rfl rfl) ?_
      refine s_x 25 rfl (y_addW (a := (((rounds R stepsL (sched W 64) i).getD 7 0) + (((rr ((rounds R stepsL (sched W 64) i).getD 4 0) 6) ^^^ (rr ((rounds R stepsL (sched W 64) i).getD 4 0) 11)) ^^^ (rr ((rounds R stepsL (sched W 64) i).getD 4 0) 25))) + (((rounds R stepsL (sched W 64) i).getD 6 0) ^^^ (((rounds R stepsL (sched W 64) i).getD 4 0) &&& (((rounds R stepsL (sched W 64) i).getD 5 0) ^^^ ((rounds R stepsL (sched W 64) i).getD 6 0))))) (b := stepsL.getD i 0) rfl rfl) ?_
      refine s_x 27 rfl (y_addW (a := ((((rounds R stepsL (sched W 64) i).getD 7 0) + (((rr ((rounds R stepsL (sched W 64) i).getD 4 0) 6) ^^^ (rr ((rounds R stepsL (sched W 64) i).getD 4 0) 11)) ^^^ (rr ((rounds R stepsL (sched W 64) i).getD 4 0) 25))) + (((rounds R stepsL (sched W 64) i).getD 6 0) ^^^ (((rounds R stepsL (sched W 64) i).getD 4 0) &&& (((rounds R stepsL (sched W 64) i).getD 5 0) ^^^ ((rounds R stepsL (sched W 64) i).getD 6 0))))) + (stepsL.getD i 0)) (b := (sched W 64).getD i 0) rfl rfl) ?_
      refine s_x 28 rfl (y_assign rfl) ?_; refine tx_done (by kernel_rfl) ?_; refine tk_then ?_; refine tk_seq ?_; refine tk_drawH [cel b7 ((rounds R stepsL (sched W 64) i).map W4) 211, cel b2 ((sched W 64).map W4) 293, cel sb (R.map W4 ++ (W.map B ++ ([I ((n : Nat) : Int)]))) 214] [] (by kernel_rfl) ?_; refine s_x 0 rfl (y_move rfl) ?_; refine s_x 2 rfl (y_move rfl) ?_; refine s_x 5 rfl (y_move rfl) ?_
      refine s_x 8 rfl (y_move rfl) ?_; refine s_x 9 rfl (y_ixAN 8 1 (o := 0) (i := 1) rfl rfl (by kernel_rfl) (by omega)) ?_; refine s_l 10 rfl (fun _ h => h.sub (List.Sublist.refl _)) (y_load rfl rfl (hc (o := 1) (.head _) (gM (d := 0) lenP))) ?_; refine s_x 11 rfl (y_andW (a := (rounds R stepsL (sched W 64) i).getD 0 0) (b := (rounds R stepsL (sched W 64) i).getD 1 0) rfl rfl) ?_; refine s_x 12 rfl (y_ixAN 8 1 (o := 0) (i := 2) rfl rfl (by kernel_rfl) (by omega)) ?_
      refine s_l 13 rfl (fun _ h => h.sub (List.Sublist.refl _)) (y_load rfl rfl (hc (o := 2) (.head _) (gM (d := 0) lenP))) ?_; refine s_x 14 rfl (y_move rfl) ?_; refine s_x 15 rfl (y_ixAN 8 1 (o := 0) (i := 1) rfl rfl (by kernel_rfl) (by omega)) ?_; refine s_l 16 rfl (fun _ h => h.sub (List.Sublist.refl _)) (y_load rfl rfl (hc (o := 1) (.head _) (gM (d := 0) lenP))) ?_; refine s_x 17 rfl (y_orW (a := (rounds R stepsL (sched W 64) i).getD 0 0) (b := (rounds R stepsL (sched W 64) i).getD 1 0) rfl rfl) ?_
      refine s_x 18 rfl (y_andW (a := (rounds R stepsL (sched W 64) i).getD 2 0) (b := ((rounds R stepsL (sched W 64) i).getD 0 0) ||| ((rounds R stepsL (sched W 64) i).getD 1 0)) rfl rfl) ?_; refine s_x 19 rfl (y_orW (a := ((rounds R stepsL (sched W 64) i).getD 0 0) &&& ((rounds R stepsL (sched W 64) i).getD 1 0)) (b := ((rounds R stepsL (sched W 64) i).getD 2 0) &&& (((rounds R stepsL (sched W 64) i).getD 0 0) ||| ((rounds R stepsL (sched W 64) i).getD 1 0))) rfl rfl) ?_
      refine tx_a 1 rfl (by kernel_rfl) rfl ?_; refine a_callv [] _ rfl (by kernel_rfl) rfl (fun w' hw' => rot_spec ((rounds R stepsL (sched W 64) i).getD 0 0) 2 (by decide)) rfl fun _ _ => ?_; refine tk_S (fun _ h => h.sub (List.Sublist.refl _)) ?_; refine tx_a 3 rfl (by kernel_rfl) rfl ?_; refine a_callv [] _ rfl (by kernel_rfl) rfl (fun w' hw' => rot_spec ((rounds R stepsL (sched W 64) i).getD 0 0) 13 (by decide)) rfl fun _ _ => ?_
      refine tk_S (fun _ h => h.sub (List.Sublist.refl _)) ?_; refine s_x 4 rfl (y_xorW (a := rr ((rounds R stepsL (sched W 64) i).getD 0 0) 2) (b := rr ((rounds R stepsL (sched W 64) i).getD 0 0) 13) rfl rfl) ?_; refine tx_a 6 rfl (by kernel_rfl) rfl ?_; refine a_callv [] _ rfl (by kernel_rfl) rfl (fun w' hw' => rot_spec ((rounds R stepsL (sched W 64) i).getD 0 0) 22 (by decide)) rfl fun _ _ => ?_
      refine tk_S (fun _ h => h.sub (List.Sublist.refl _)) ?_; refine s_x 7 rfl (y_xorW (a := (rr ((rounds R stepsL (sched W 64) i).getD 0 0) 2) ^^^ (rr ((rounds R stepsL (sched W 64) i).getD 0 0) 13)) (b := rr ((rounds R stepsL (sched W 64) i).getD 0 0) 22) rfl rfl) ?_; refine s_x 20 rfl (y_addW (a := ((rr ((rounds R stepsL (sched W 64) i).getD 0 0) 2) ^^^ (rr ((rounds R stepsL (sched W 64) i).getD 0 0) 13)) ^^^ (rr ((rounds R stepsL (sched W 64) i).getD 0 0) 22)) (b := (((rounds R stepsL (sched W 64) i).getD 0 0) &&& ((rounds R stepsL (sched W 64) i).getD 1 0)) ||| (((rounds R stepsL (sched W 64) i).getD 2 0) &&& (((rounds R stepsL (sched W 64) i).getD 0 0) ||| ((rounds R stepsL (sched W 64) i).getD 1 0)))) rfl rfl) ?_
      refine s_x 21 rfl (y_assign rfl) ?_; refine tx_done (by kernel_rfl) ?_; refine tk_then ?_; refine tk_seq ?_; refine tk_drawH [cel b2 ((sched W 64).map W4) 293, cel sb (R.map W4 ++ (W.map B ++ ([I ((n : Nat) : Int)]))) 214] [] (by kernel_rfl) ?_; refine s_x 0 rfl (y_cutAlN1 (o := 0) 8 1 1 rfl rfl (by kernel_rfl) ⟨rfl, (by omega)⟩) ?_; refine s_x 1 rfl (y_cutAhN (o := 0) 8 1 7 rfl rfl (by kernel_rfl) ⟨rfl, (by omega)⟩) ?_
      refine tx_a 2 rfl (by kernel_rfl) rfl ?_; refine a_copyR (H1 := []) (pre := ((rounds R stepsL (sched W 64) i).take 1).map W4) (mid := ((rounds R stepsL (sched W 64) i).drop 1).map W4) (post := []) (vs := ((rounds R stepsL (sched W 64) i).take 7).map W4) (us := ((rounds R stepsL (sched W 64) i).take 7).map W4) (cs' := ((rounds R stepsL (sched W 64) i).take 1 ++ (rounds R stepsL (sched W 64) i).take 7).map W4) (m := 7) rfl rfl rfl (by kernel_rfl) rfl rfl (fun w hw => cel_rdE (o := 0) (vs := ((rounds R stepsL (sched W 64) i).take 7).map W4) (hw.mem (.head _)) (by rw [List.drop_zero, List.length_map, List.length_take, hv, List.map_take]; rfl) (by simp [hv]) (by omega)) (by simp [hv]) (by rw [← List.map_take, List.take_take]; rfl) oneW ⟨by simp [hv], by simp [hv]⟩ (by rw [List.append_nil, ← List.map_append, List.take_append_drop]) (by rw [List.append_nil, ← List.map_append]) ?_
      refine tk_S (fun _ h => h.sub (.cons _ (List.Sublist.refl _))) ?_; refine tx_done (by kernel_rfl) ?_; refine tk_then ?_; refine s_r ?_; refine s_q rfl (y_move rfl) ?_; refine s_q rfl (y_move rfl) ?_; refine s_q rfl (y_addW (a := (((((rounds R stepsL (sched W 64) i).getD 7 0) + (((rr ((rounds R stepsL (sched W 64) i).getD 4 0) 6) ^^^ (rr ((rounds R stepsL (sched W 64) i).getD 4 0) 11)) ^^^ (rr ((rounds R stepsL (sched W 64) i).getD 4 0) 25))) + (((rounds R stepsL (sched W 64) i).getD 6 0) ^^^ (((rounds R stepsL (sched W 64) i).getD 4 0) &&& (((rounds R stepsL (sched W 64) i).getD 5 0) ^^^ ((rounds R stepsL (sched W 64) i).getD 6 0))))) + (stepsL.getD i 0)) + ((sched W 64).getD i 0)) (b := (((rr ((rounds R stepsL (sched W 64) i).getD 0 0) 2) ^^^ (rr ((rounds R stepsL (sched W 64) i).getD 0 0) 13)) ^^^ (rr ((rounds R stepsL (sched W 64) i).getD 0 0) 22)) + ((((rounds R stepsL (sched W 64) i).getD 0 0) &&& ((rounds R stepsL (sched W 64) i).getD 1 0)) ||| (((rounds R stepsL (sched W 64) i).getD 2 0) &&& (((rounds R stepsL (sched W 64) i).getD 0 0) ||| ((rounds R stepsL (sched W 64) i).getD 1 0))))) rfl rfl) ?_
      refine s_q rfl (y_ixAN 8 1 (o := 0) (i := 0) rfl rfl (by kernel_rfl) (by omega)) ?_; refine tk_act rfl ?_; refine a_storeE (H1 := []) (o := 0) (v := W4 (((((((rounds R stepsL (sched W 64) i).getD 7 0) + (((rr ((rounds R stepsL (sched W 64) i).getD 4 0) 6) ^^^ (rr ((rounds R stepsL (sched W 64) i).getD 4 0) 11)) ^^^ (rr ((rounds R stepsL (sched W 64) i).getD 4 0) 25))) + (((rounds R stepsL (sched W 64) i).getD 6 0) ^^^ (((rounds R stepsL (sched W 64) i).getD 4 0) &&& (((rounds R stepsL (sched W 64) i).getD 5 0) ^^^ ((rounds R stepsL (sched W 64) i).getD 6 0))))) + (stepsL.getD i 0)) + ((sched W 64).getD i 0)) + ((((rr ((rounds R stepsL (sched W 64) i).getD 0 0) 2) ^^^ (rr ((rounds R stepsL (sched W 64) i).getD 0 0) 13)) ^^^ (rr ((rounds R stepsL (sched W 64) i).getD 0 0) 22)) + ((((rounds R stepsL (sched W 64) i).getD 0 0) &&& ((rounds R stepsL (sched W 64) i).getD 1 0)) ||| (((rounds R stepsL (sched W 64) i).getD 2 0) &&& (((rounds R stepsL (sched W 64) i).getD 0 0) ||| ((rounds R stepsL (sched W 64) i).getD 1 0))))))) (cs' := (((rounds R stepsL (sched W 64) i).take 1 ++ (rounds R stepsL (sched W 64) i).take 7).set 0 (((((((rounds R stepsL (sched W 64) i).getD 7 0) + (((rr ((rounds R stepsL (sched W 64) i).getD 4 0) 6) ^^^ (rr ((rounds R stepsL (sched W 64) i).getD 4 0) 11)) ^^^ (rr ((rounds R stepsL (sched W 64) i).getD 4 0) 25))) + (((rounds R stepsL (sched W 64) i).getD 6 0) ^^^ (((rounds R stepsL (sched W 64) i).getD 4 0) &&& (((rounds R stepsL (sched W 64) i).getD 5 0) ^^^ ((rounds R stepsL (sched W 64) i).getD 6 0))))) + (stepsL.getD i 0)) + ((sched W 64).getD i 0)) + ((((rr ((rounds R stepsL (sched W 64) i).getD 0 0) 2) ^^^ (rr ((rounds R stepsL (sched W 64) i).getD 0 0) 13)) ^^^ (rr ((rounds R stepsL (sched W 64) i).getD 0 0) 22)) + ((((rounds R stepsL (sched W 64) i).getD 0 0) &&& ((rounds R stepsL (sched W 64) i).getD 1 0)) ||| (((rounds R stepsL (sched W 64) i).getD 2 0) &&& (((rounds R stepsL (sched W 64) i).getD 0 0) ||| ((rounds R stepsL (sched W 64) i).getD 1 0))))))).map W4) rfl rfl (by kernel_rfl) rfl rfl (by first | (simp; done) | (simp; omega)) (sM) ?_
      refine s_n ?_; refine tk_region ?_; refine s_q rfl (y_ixAN 8 1 (o := 0) (i := 4) rfl rfl (by kernel_rfl) (by omega)) ?_; refine s_q rfl (y_load rfl rfl (hc (o := 4) (.head _) (gM (d := 0) lenP))) ?_; refine s_q rfl (y_move rfl) ?_; refine s_q rfl (y_addW (a := (((rounds R stepsL (sched W 64) i).take 1 ++ (rounds R stepsL (sched W 64) i).take 7).set 0 (((((((rounds R stepsL (sched W 64) i).getD 7 0) + (((rr ((rounds R stepsL (sched W 64) i).getD 4 0) 6) ^^^ (rr ((rounds R stepsL (sched W 64) i).getD 4 0) 11)) ^^^ (rr ((rounds R stepsL (sched W 64) i).getD 4 0) 25))) + (((rounds R stepsL (sched W 64) i).getD 6 0) ^^^ (((rounds R stepsL (sched W 64) i).getD 4 0) &&& (((rounds R stepsL (sched W 64) i).getD 5 0) ^^^ ((rounds R stepsL (sched W 64) i).getD 6 0))))) + (stepsL.getD i 0)) + ((sched W 64).getD i 0)) + ((((rr ((rounds R stepsL (sched W 64) i).getD 0 0) 2) ^^^ (rr ((rounds R stepsL (sched W 64) i).getD 0 0) 13)) ^^^ (rr ((rounds R stepsL (sched W 64) i).getD 0 0) 22)) + ((((rounds R stepsL (sched W 64) i).getD 0 0) &&& ((rounds R stepsL (sched W 64) i).getD 1 0)) ||| (((rounds R stepsL (sched W 64) i).getD 2 0) &&& (((rounds R stepsL (sched W 64) i).getD 0 0) ||| ((rounds R stepsL (sched W 64) i).getD 1 0))))))).getD 4 0) (b := (((((rounds R stepsL (sched W 64) i).getD 7 0) + (((rr ((rounds R stepsL (sched W 64) i).getD 4 0) 6) ^^^ (rr ((rounds R stepsL (sched W 64) i).getD 4 0) 11)) ^^^ (rr ((rounds R stepsL (sched W 64) i).getD 4 0) 25))) + (((rounds R stepsL (sched W 64) i).getD 6 0) ^^^ (((rounds R stepsL (sched W 64) i).getD 4 0) &&& (((rounds R stepsL (sched W 64) i).getD 5 0) ^^^ ((rounds R stepsL (sched W 64) i).getD 6 0))))) + (stepsL.getD i 0)) + ((sched W 64).getD i 0)) rfl rfl) ?_
      refine s_q rfl (y_ixAN 8 1 (o := 0) (i := 4) rfl rfl (by kernel_rfl) (by omega)) ?_; refine tk_act rfl ?_; refine a_storeE (H1 := []) (o := 4) (v := W4 (((((rounds R stepsL (sched W 64) i).take 1 ++ (rounds R stepsL (sched W 64) i).take 7).set 0 (((((((rounds R stepsL (sched W 64) i).getD 7 0) + (((rr ((rounds R stepsL (sched W 64) i).getD 4 0) 6) ^^^ (rr ((rounds R stepsL (sched W 64) i).getD 4 0) 11)) ^^^ (rr ((rounds R stepsL (sched W 64) i).getD 4 0) 25))) + (((rounds R stepsL (sched W 64) i).getD 6 0) ^^^ (((rounds R stepsL (sched W 64) i).getD 4 0) &&& (((rounds R stepsL (sched W 64) i).getD 5 0) ^^^ ((rounds R stepsL (sched W 64) i).getD 6 0))))) + (stepsL.getD i 0)) + ((sched W 64).getD i 0)) + ((((rr ((rounds R stepsL (sched W 64) i).getD 0 0) 2) ^^^ (rr ((rounds R stepsL (sched W 64) i).getD 0 0) 13)) ^^^ (rr ((rounds R stepsL (sched W 64) i).getD 0 0) 22)) + ((((rounds R stepsL (sched W 64) i).getD 0 0) &&& ((rounds R stepsL (sched W 64) i).getD 1 0)) ||| (((rounds R stepsL (sched W 64) i).getD 2 0) &&& (((rounds R stepsL (sched W 64) i).getD 0 0) ||| ((rounds R stepsL (sched W 64) i).getD 1 0))))))).getD 4 0) + ((((((rounds R stepsL (sched W 64) i).getD 7 0) + (((rr ((rounds R stepsL (sched W 64) i).getD 4 0) 6) ^^^ (rr ((rounds R stepsL (sched W 64) i).getD 4 0) 11)) ^^^ (rr ((rounds R stepsL (sched W 64) i).getD 4 0) 25))) + (((rounds R stepsL (sched W 64) i).getD 6 0) ^^^ (((rounds R stepsL (sched W 64) i).getD 4 0) &&& (((rounds R stepsL (sched W 64) i).getD 5 0) ^^^ ((rounds R stepsL (sched W 64) i).getD 6 0))))) + (stepsL.getD i 0)) + ((sched W 64).getD i 0)))) (cs' := ((((rounds R stepsL (sched W 64) i).take 1 ++ (rounds R stepsL (sched W 64) i).take 7).set 0 (((((((rounds R stepsL (sched W 64) i).getD 7 0) + (((rr ((rounds R stepsL (sched W 64) i).getD 4 0) 6) ^^^ (rr ((rounds R stepsL (sched W 64) i).getD 4 0) 11)) ^^^ (rr ((rounds R stepsL (sched W 64) i).getD 4 0) 25))) + (((rounds R stepsL (sched W 64) i).getD 6 0) ^^^ (((rounds R stepsL (sched W 64) i).getD 4 0) &&& (((rounds R stepsL (sched W 64) i).getD 5 0) ^^^ ((rounds R stepsL (sched W 64) i).getD 6 0))))) + (stepsL.getD i 0)) + ((sched W 64).getD i 0)) + ((((rr ((rounds R stepsL (sched W 64) i).getD 0 0) 2) ^^^ (rr ((rounds R stepsL (sched W 64) i).getD 0 0) 13)) ^^^ (rr ((rounds R stepsL (sched W 64) i).getD 0 0) 22)) + ((((rounds R stepsL (sched W 64) i).getD 0 0) &&& ((rounds R stepsL (sched W 64) i).getD 1 0)) ||| (((rounds R stepsL (sched W 64) i).getD 2 0) &&& (((rounds R stepsL (sched W 64) i).getD 0 0) ||| ((rounds R stepsL (sched W 64) i).getD 1 0))))))).set 4 (((((rounds R stepsL (sched W 64) i).take 1 ++ (rounds R stepsL (sched W 64) i).take 7).set 0 (((((((rounds R stepsL (sched W 64) i).getD 7 0) + (((rr ((rounds R stepsL (sched W 64) i).getD 4 0) 6) ^^^ (rr ((rounds R stepsL (sched W 64) i).getD 4 0) 11)) ^^^ (rr ((rounds R stepsL (sched W 64) i).getD 4 0) 25))) + (((rounds R stepsL (sched W 64) i).getD 6 0) ^^^ (((rounds R stepsL (sched W 64) i).getD 4 0) &&& (((rounds R stepsL (sched W 64) i).getD 5 0) ^^^ ((rounds R stepsL (sched W 64) i).getD 6 0))))) + (stepsL.getD i 0)) + ((sched W 64).getD i 0)) + ((((rr ((rounds R stepsL (sched W 64) i).getD 0 0) 2) ^^^ (rr ((rounds R stepsL (sched W 64) i).getD 0 0) 13)) ^^^ (rr ((rounds R stepsL (sched W 64) i).getD 0 0) 22)) + ((((rounds R stepsL (sched W 64) i).getD 0 0) &&& ((rounds R stepsL (sched W 64) i).getD 1 0)) ||| (((rounds R stepsL (sched W 64) i).getD 2 0) &&& (((rounds R stepsL (sched W 64) i).getD 0 0) ||| ((rounds R stepsL (sched W 64) i).getD 1 0))))))).getD 4 0) + ((((((rounds R stepsL (sched W 64) i).getD 7 0) + (((rr ((rounds R stepsL (sched W 64) i).getD 4 0) 6) ^^^ (rr ((rounds R stepsL (sched W 64) i).getD 4 0) 11)) ^^^ (rr ((rounds R stepsL (sched W 64) i).getD 4 0) 25))) + (((rounds R stepsL (sched W 64) i).getD 6 0) ^^^ (((rounds R stepsL (sched W 64) i).getD 4 0) &&& (((rounds R stepsL (sched W 64) i).getD 5 0) ^^^ ((rounds R stepsL (sched W 64) i).getD 6 0))))) + (stepsL.getD i 0)) + ((sched W 64).getD i 0)))).map W4) rfl rfl (by kernel_rfl) rfl rfl (by first | (simp; done) | (simp; omega)) (sM) ?_
      refine tk_nil ?_; refine tk_in_normal ?_; refine tk_then ?_; refine tk_region ?_; refine s_q rfl (y_addN (a := i) (b := 1) rfl rfl (by omega)) ?_; refine s_q rfl (y_move rfl) ?_; refine tk_nil ?_; refine tk_H [cel b7 ((rounds R stepsL (sched W 64) (i + 1)).map W4) 211, cel b2 ((sched W 64).map W4) 293, cel sb (R.map W4 ++ (W.map B ++ ([I ((n : Nat) : Int)]))) 214] (congrArg (fun z_ => [cel b7 z_ 211, cel b2 ((sched W 64).map W4) 293, cel sb (R.map W4 ++ (W.map B ++ ([I ((n : Nat) : Int)]))) 214]) (show ((((rounds R stepsL (sched W 64) i).take 1 ++ (rounds R stepsL (sched W 64) i).take 7).set 0 (((((((rounds R stepsL (sched W 64) i).getD 7 0) + (((rr ((rounds R stepsL (sched W 64) i).getD 4 0) 6) ^^^ (rr ((rounds R stepsL (sched W 64) i).getD 4 0) 11)) ^^^ (rr ((rounds R stepsL (sched W 64) i).getD 4 0) 25))) + (((rounds R stepsL (sched W 64) i).getD 6 0) ^^^ (((rounds R stepsL (sched W 64) i).getD 4 0) &&& (((rounds R stepsL (sched W 64) i).getD 5 0) ^^^ ((rounds R stepsL (sched W 64) i).getD 6 0))))) + (stepsL.getD i 0)) + ((sched W 64).getD i 0)) + ((((rr ((rounds R stepsL (sched W 64) i).getD 0 0) 2) ^^^ (rr ((rounds R stepsL (sched W 64) i).getD 0 0) 13)) ^^^ (rr ((rounds R stepsL (sched W 64) i).getD 0 0) 22)) + ((((rounds R stepsL (sched W 64) i).getD 0 0) &&& ((rounds R stepsL (sched W 64) i).getD 1 0)) ||| (((rounds R stepsL (sched W 64) i).getD 2 0) &&& (((rounds R stepsL (sched W 64) i).getD 0 0) ||| ((rounds R stepsL (sched W 64) i).getD 1 0))))))).set 4 (((((rounds R stepsL (sched W 64) i).take 1 ++ (rounds R stepsL (sched W 64) i).take 7).set 0 (((((((rounds R stepsL (sched W 64) i).getD 7 0) + (((rr ((rounds R stepsL (sched W 64) i).getD 4 0) 6) ^^^ (rr ((rounds R stepsL (sched W 64) i).getD 4 0) 11)) ^^^ (rr ((rounds R stepsL (sched W 64) i).getD 4 0) 25))) + (((rounds R stepsL (sched W 64) i).getD 6 0) ^^^ (((rounds R stepsL (sched W 64) i).getD 4 0) &&& (((rounds R stepsL (sched W 64) i).getD 5 0) ^^^ ((rounds R stepsL (sched W 64) i).getD 6 0))))) + (stepsL.getD i 0)) + ((sched W 64).getD i 0)) + ((((rr ((rounds R stepsL (sched W 64) i).getD 0 0) 2) ^^^ (rr ((rounds R stepsL (sched W 64) i).getD 0 0) 13)) ^^^ (rr ((rounds R stepsL (sched W 64) i).getD 0 0) 22)) + ((((rounds R stepsL (sched W 64) i).getD 0 0) &&& ((rounds R stepsL (sched W 64) i).getD 1 0)) ||| (((rounds R stepsL (sched W 64) i).getD 2 0) &&& (((rounds R stepsL (sched W 64) i).getD 0 0) ||| ((rounds R stepsL (sched W 64) i).getD 1 0))))))).getD 4 0) + ((((((rounds R stepsL (sched W 64) i).getD 7 0) + (((rr ((rounds R stepsL (sched W 64) i).getD 4 0) 6) ^^^ (rr ((rounds R stepsL (sched W 64) i).getD 4 0) 11)) ^^^ (rr ((rounds R stepsL (sched W 64) i).getD 4 0) 25))) + (((rounds R stepsL (sched W 64) i).getD 6 0) ^^^ (((rounds R stepsL (sched W 64) i).getD 4 0) &&& (((rounds R stepsL (sched W 64) i).getD 5 0) ^^^ ((rounds R stepsL (sched W 64) i).getD 6 0))))) + (stepsL.getD i 0)) + ((sched W 64).getD i 0)))).map W4 = (rounds R stepsL (sched W 64) (i + 1)).map W4 from congrArg (List.map W4) ((rstep_prog (rounds_len hR i) (stepsL.getD i 0) ((sched W 64).getD i 0) rfl rfl).trans rounds_succ.symm))) ?_
      exact tk_again (i + 1) (by first | exact trivial | omega | (dsimp only; omega)) (by first | omega | (dsimp only; omega)) (by repeat (first | exact trivial | refine ⟨rfl, ?_⟩)) (List.Sublist.refl _)
    · skip
      refine tk_H [cel b7 ((rounds R stepsL (sched W 64) 64).map W4) 211, cel b2 ((sched W 64).map W4) 293, cel sb (R.map W4 ++ (W.map B ++ ([I ((n : Nat) : Int)]))) 214] (congrArg (fun z_ => [cel b7 z_ 211, cel b2 ((sched W 64).map W4) 293, cel sb (R.map W4 ++ (W.map B ++ ([I ((n : Nat) : Int)]))) 214]) (show (rounds R stepsL (sched W 64) i).map W4 = (rounds R stepsL (sched W 64) 64).map W4 from by rw [show i = 64 by omega])) ?_
      refine tk_exit ?_; refine tk_then_exit ?_; refine tk_then_exit ?_; refine tk_in_hit ?_; refine tk_then ?_; refine s_r ?_; refine s_q rfl (y_move rfl) ?_; refine s_n ?_; refine tk_block ?_; refine tk_H [cel b7 ((rounds R stepsL (sched W 64) 64).map W4) 211, cel b2 ((sched W 64).map W4) 293, cel sb ((addI R (rounds R stepsL (sched W 64) 64) 0).map W4 ++ (W.map B ++ ([I ((n : Nat) : Int)]))) 214] (congrArg (fun z_ => [cel b7 ((rounds R stepsL (sched W 64) 64).map W4) 211, cel b2 ((sched W 64).map W4) 293, cel sb z_ 214]) (show R.map W4 ++ (W.map B ++ ([I ((n : Nat) : Int)])) = (addI R (rounds R stepsL (sched W 64) 64) 0).map W4 ++ (W.map B ++ ([I ((n : Nat) : Int)])) from by rw [addI_0 hR])) ?_
      refine tk_loop (X := Nat) (fun i => i ≤ 8) (fun i => [(0, .pointer (some ⟨sb, 0, none⟩)), (7, .pointer (some ⟨b7, 0, none⟩)), (163, I ((i : Nat) : Int))]) (fun i => [cel b7 ((rounds R stepsL (sched W 64) 64).map W4) 211, cel b2 ((sched W 64).map W4) 293, cel sb ((addI R (rounds R stepsL (sched W 64) 64) i).map W4 ++ (W.map B ++ ([I ((n : Nat) : Int)]))) 214]) (fun i => 8 - i) (0) (by first | exact trivial | omega | (dsimp only; omega)) (by repeat (first | exact trivial | refine ⟨rfl, ?_⟩)) ((List.Sublist.refl _)) ?_
      rintro i hI
      try dsimp only at hI ⊢
      have hv : (rounds R stepsL (sched W 64) 64).length = 8 := rounds_len hR 64
      have ha : (addI R (rounds R stepsL (sched W 64) 64) i).length = 8 := addI_len
      refine s_r ?_; refine s_q rfl (y_lss rfl rfl) ?_; refine s_n ?_; refine tk_seq ?_; refine tk_condP rfl (fun ht164 => ?_) (fun ht164 => ?_)
      · skip
        refine tk_skip ?_; refine tk_then ?_; refine tk_seq ?_; refine tk_block ?_; refine s_r ?_; refine s_q rfl (y_move rfl) ?_; refine s_q rfl (y_assign rfl) ?_; refine s_n ?_; refine tk_drawH [cel b7 ((rounds R stepsL (sched W 64) 64).map W4) 211, cel b2 ((sched W 64).map W4) 293, cel sb ((addI R (rounds R stepsL (sched W 64) 64) i).map W4 ++ (W.map B ++ ([I ((n : Nat) : Int)]))) 214] [13] (by kernel_rfl) ?_
        refine s_x 0 rfl (y_move rfl) ?_; refine s_x 1 rfl (y_move rfl) ?_; refine s_x 2 rfl (y_nilCheck rfl) ?_; refine s_x 3 rfl (y_fld0 (o := 0) rfl (by kernel_rfl)) ?_; refine s_x 4 rfl (y_ixA01 8 (i := i) rfl rfl (by kernel_rfl) (by omega)) ?_; refine s_l 5 rfl (fun _ h => h.sub (List.Sublist.refl _)) (y_load rfl rfl (hc (o := i) (.tail _ (.tail _ (.head _))) (gM1 (d := 0) lenP))) ?_; refine s_x 6 rfl (y_move rfl) ?_
        refine s_x 7 rfl (y_ixA01 8 (i := i) rfl rfl (by kernel_rfl) (by omega)) ?_; refine s_l 8 rfl (fun _ h => h.sub (List.Sublist.refl _)) (y_load rfl rfl (hc (o := i) (.head _) (gM (d := 0) lenP))) ?_; refine s_x 9 rfl (y_addW (a := (addI R (rounds R stepsL (sched W 64) 64) i).getD i 0) (b := (rounds R stepsL (sched W 64) 64).getD i 0) rfl rfl) ?_; refine s_x 10 rfl (y_nilCheck rfl) ?_; refine s_x 11 rfl (y_fld0 (o := 0) rfl (by kernel_rfl)) ?_
        refine s_x 12 rfl (y_ixA01 8 (i := i) rfl rfl (by kernel_rfl) (by omega)) ?_; refine tx_x 13 rfl (by kernel_rfl) rfl rfl ?_; refine a_storeE (H1 := [_, _]) (o := i) (v := W4 (((addI R (rounds R stepsL (sched W 64) 64) i).getD i 0) + ((rounds R stepsL (sched W 64) 64).getD i 0))) (cs' := ((addI R (rounds R stepsL (sched W 64) 64) i).set i (((addI R (rounds R stepsL (sched W 64) 64) i).getD i 0) + ((rounds R stepsL (sched W 64) 64).getD i 0))).map W4 ++ (W.map B ++ ([I ((n : Nat) : Int)]))) rfl rfl (by kernel_rfl) rfl rfl (by first | (simp; done) | (simp; omega)) (sM1 lenP) ?_
        refine tx_done (by kernel_rfl) ?_; refine tk_in_normal ?_; refine tk_then ?_; refine tk_region ?_; refine s_q rfl (y_addN (a := i) (b := 1) rfl rfl (by omega)) ?_; refine s_q rfl (y_move rfl) ?_; refine tk_nil ?_; refine tk_H [cel b7 ((rounds R stepsL (sched W 64) 64).map W4) 211, cel b2 ((sched W 64).map W4) 293, cel sb ((addI R (rounds R stepsL (sched W 64) 64) (i + 1)).map W4 ++ (W.map B ++ ([I ((n : Nat) : Int)]))) 214] (congrArg (fun z_ => [cel b7 ((rounds R stepsL (sched W 64) 64).map W4) 211, cel b2 ((sched W 64).map W4) 293, cel sb z_ 214]) (show ((addI R (rounds R stepsL (sched W 64) 64) i).set i (((addI R (rounds R stepsL (sched W 64) 64) i).getD i 0) + ((rounds R stepsL (sched W 64) 64).getD i 0))).map W4 ++ (W.map B ++ ([I ((n : Nat) : Int)])) = (addI R (rounds R stepsL (sched W 64) 64) (i + 1)).map W4 ++ (W.map B ++ ([I ((n : Nat) : Int)])) from by rw [addI_set (by omega)])) ?_
        exact tk_again (i + 1) (by first | exact trivial | omega | (dsimp only; omega)) (by first | omega | (dsimp only; omega)) (by repeat (first | exact trivial | refine ⟨rfl, ?_⟩)) (List.Sublist.refl _)
      · skip
        refine tk_H [cel b7 ((rounds R stepsL (sched W 64) 64).map W4) 211, cel b2 ((sched W 64).map W4) 293, cel sb ((blockF R W).map W4 ++ (W.map B ++ ([I ((n : Nat) : Int)]))) 214] (congrArg (fun z_ => [cel b7 ((rounds R stepsL (sched W 64) 64).map W4) 211, cel b2 ((sched W 64).map W4) 293, cel sb z_ 214]) (show (addI R (rounds R stepsL (sched W 64) 64) i).map W4 ++ (W.map B ++ ([I ((n : Nat) : Int)])) = (blockF R W).map W4 ++ (W.map B ++ ([I ((n : Nat) : Int)])) from by rw [show i = 8 by omega, blockF])) ?_
        refine tk_exit ?_; refine tk_then_exit ?_; refine tk_then_exit ?_; refine tk_in_hit ?_
        exact tk_ret (()) (trivial) (.inr rfl) (r0 rfl) (.cons _ (.cons _ (List.Sublist.refl _)))
theorem take_spec {sb n : Nat} {R : List UInt32} {W l m : List UInt8} {v : Value} {w : World} (hS : SI l R W) (hv : Ro (Fs [cel sb (R.map W4 ++ (W.map B ++ [I ((n : Nat) : Int)])) 214]) w (rdB v m)) (hn : n = l.length) (hb : l.length + m.length < 1152921504606846976)
    (hg : Ro (Fs [cel sb (R.map W4 ++ (W.map B ++ [I ((n : Nat) : Int)])) 214]) w glob) (hh : Pre w [cel sb (R.map W4 ++ (W.map B ++ [I ((n : Nat) : Int)])) 214]) :
    Spec Tryz.prog 107 [.pointer (some ⟨sb, 0, none⟩), v] w [cel sb (R.map W4 ++ (W.map B ++ [I ((n : Nat) : Int)])) 214] (fun x : List UInt32 × List UInt8 => SI (l ++ m) x.1 x.2) (fun _ => .tuple #[])
      (fun x => [cel sb (x.1.map W4 ++ (x.2.map B ++ [I ((l.length + m.length : Nat) : Int)])) 214]) := by
  refine spec_of (n := 38) Tryz.func107 rfl rfl hh.1 hh.2 rfl ?_
  subst hn
  have hR80 := hS.1
  have hW640 := hS.2.1
  refine s_r ?_; refine s_q rfl (y_move rfl) ?_; refine s_q rfl (y_lenRN (n' := m.length) rfl hv.1 rfl (by first | rfl | (rw [List.length_map]; omega) | simp)) ?_; refine s_q rfl (y_move rfl) ?_; refine s_n ?_; refine tk_block ?_; refine tk_loop (X := Nat × List UInt32 × List UInt8) (fun (j, Rj, Wj) => j ≤ m.length ∧ SI (l ++ m.take j) Rj Wj) (fun (j, Rj, Wj) => [(0, .pointer (some ⟨sb, 0, none⟩)), (6, v), (7, I ((m.length : Nat) : Int)), (8, I ((j : Nat) : Int))]) (fun (j, Rj, Wj) => [cel sb (Rj.map W4 ++ (Wj.map B ++ ([I ((l.length + j : Nat) : Int)]))) 214]) (fun (j, Rj, Wj) => m.length - j) ((0, R, W)) (by dsimp only; exact ⟨Nat.zero_le _, by rw [List.take_zero, List.append_nil]; exact hS⟩) (by repeat (first | exact trivial | refine ⟨rfl, ?_⟩)) ((List.Sublist.refl _)) ?_
  rintro ⟨j, Rj, Wj⟩ hI
  try dsimp only at hI ⊢
  have hR8 := hI.2.1
  have hW64 := hI.2.2.1
  have hwv := hv.1
  refine s_r ?_; refine s_q rfl (y_lss rfl rfl) ?_; refine s_n ?_; refine tk_seq ?_; refine tk_condP rfl (fun ht9 => ?_) (fun ht9 => ?_)
  · skip
    refine tk_skip ?_; refine tk_then ?_; refine tk_seq ?_; refine tk_block ?_; refine s_r ?_; refine s_q rfl (y_ixR (j := j) rfl rfl hv.1 lenP (by kernel_rfl)) ?_; refine s_q rfl (y_load rfl rfl (fun w hw => ((fun w hw => Ro.rd hv hw) w hw).cell (gM (d := 0) lenP))) ?_; refine s_q rfl (y_assign rfl) ?_; refine s_n ?_; refine tk_seq ?_; refine tk_drawH [cel sb (Rj.map W4 ++ (Wj.map B ++ ([I ((l.length + j : Nat) : Int)]))) 214] [10] (by kernel_rfl) ?_
    refine s_x 0 rfl (y_move rfl) ?_; refine s_x 1 rfl (y_move rfl) ?_; refine s_x 2 rfl (y_nilCheck rfl) ?_; refine s_x 3 rfl (y_fldN (o := 0) 72 rfl (by kernel_rfl)) ?_; refine s_l 4 rfl (fun _ h => h.sub (List.Sublist.refl _)) (y_load rfl rfl (hc (o := 72) (.head _) (gA (k := 8) (i := 64) lenP (by omega) (gA (k := 64) (i := 0) lenP (by omega) (rfl))))) ?_; refine s_x 5 rfl (y_remN (a := l.length + j) (b := 64) rfl rfl (by omega)) ?_
    refine s_x 6 rfl (y_move rfl) ?_; refine s_x 7 rfl (y_nilCheck rfl) ?_; refine s_x 8 rfl (y_fldN (o := 0) 8 rfl (by kernel_rfl)) ?_; refine s_x 9 rfl (y_ixAN1 64 (o := 8) (i := (l.length + j) % 64) rfl rfl (by kernel_rfl) (by omega)) ?_; refine tx_x 10 rfl (by kernel_rfl) rfl rfl ?_; refine a_storeE (H1 := []) (o := 8 + (l.length + j) % 64) (v := B (m.getD j 0)) (cs' := Rj.map W4 ++ ((Wj.set ((l.length + j) % 64) (m.getD j 0)).map B ++ ([I ((l.length + j : Nat) : Int)]))) rfl rfl (by kernel_rfl) rfl rfl (by first | (simp; done) | (simp; omega)) (sA (k := 8) (i := (l.length + j) % 64) lenP (by omega) (sM1 lenP)) ?_
    refine tx_done (by kernel_rfl) ?_; refine tk_then ?_; refine s_r ?_; refine s_q rfl (y_move rfl) ?_; refine s_q rfl (y_nilCheck rfl) ?_; refine s_q rfl (y_fldN (o := 0) 72 rfl (by kernel_rfl)) ?_; refine s_q rfl (y_load rfl rfl (hc (o := 72) (.head _) (gA (k := 8) (i := 64) lenP (by omega) (gA (k := 64) (i := 0) lenP (by omega) (rfl))))) ?_; refine s_q rfl (y_addN (a := l.length + j) (b := 1) rfl rfl (by omega)) ?_
    refine s_q rfl (y_nilCheck rfl) ?_; refine s_q rfl (y_fldN (o := 0) 72 rfl (by kernel_rfl)) ?_; refine tk_act rfl ?_; refine a_storeE (H1 := []) (o := 72) (v := I (((l.length + j) + 1 : Nat) : Int)) (cs' := Rj.map W4 ++ ((Wj.set ((l.length + j) % 64) (m.getD j 0)).map B ++ ([I (((l.length + j) + 1 : Nat) : Int)]))) rfl rfl (by kernel_rfl) rfl rfl (by first | (simp; done) | (simp; omega)) (sA (k := 8) (i := 64) lenP (by omega) (sA (k := 64) (i := 0) lenP (by omega) (rfl))) ?_
    refine s_n ?_; refine s_r ?_; refine s_q rfl (y_move rfl) ?_; refine s_q rfl (y_nilCheck rfl) ?_; refine s_q rfl (y_fldN (o := 0) 72 rfl (by kernel_rfl)) ?_; refine s_q rfl (y_load rfl rfl (hc (o := 72) (.head _) (gA (k := 8) (i := 64) lenP (by omega) (gA (k := 64) (i := 0) lenP (by omega) (rfl))))) ?_; refine s_q rfl (y_remN (a := (l.length + j) + 1) (b := 64) rfl rfl (by omega)) ?_; refine s_q rfl (y_eql rfl rfl) ?_
    refine s_n ?_; refine tk_condP rfl (fun ht34 => ?_) (fun ht34 => ?_)
    · skip
      refine tk_region ?_; refine s_q rfl (y_move rfl) ?_; refine tk_act rfl ?_; refine a_callv [] _ rfl (by kernel_rfl) rfl (fun w' hw' => turn_spec (R := Rj) (W := Wj.set ((l.length + j) % 64) (m.getD j 0)) (n := (l.length + j) + 1) lenP lenP (hg.call hw') (St.pre hw')) rfl fun _ _ => ?_; refine tk_nil ?_; refine tk_in_normal ?_; refine tk_then ?_; refine tk_region ?_; refine s_q rfl (y_addN (a := j) (b := 1) rfl rfl (by omega)) ?_
      refine s_q rfl (y_move rfl) ?_; refine tk_nil ?_
      exact tk_again ((j + 1, blockF Rj (Wj.set ((l.length + j) % 64) (m.getD j 0)), Wj.set ((l.length + j) % 64) (m.getD j 0))) (⟨by omega, SI_twrap hI.2 (by omega) (by omega)⟩) (by first | omega | (dsimp only; omega)) (by repeat (first | exact trivial | refine ⟨rfl, ?_⟩)) (List.Sublist.refl _)
    · skip
      refine tk_skip ?_; refine tk_in_normal ?_; refine tk_then ?_; refine tk_region ?_; refine s_q rfl (y_addN (a := j) (b := 1) rfl rfl (by omega)) ?_; refine s_q rfl (y_move rfl) ?_; refine tk_nil ?_
      exact tk_again ((j + 1, Rj, Wj.set ((l.length + j) % 64) (m.getD j 0))) (⟨by omega, SI_tpush hI.2 (by omega) (by omega)⟩) (by first | omega | (dsimp only; omega)) (by repeat (first | exact trivial | refine ⟨rfl, ?_⟩)) (List.Sublist.refl _)
  · skip
    refine tk_exit ?_; refine tk_then_exit ?_; refine tk_then_exit ?_; refine tk_in_hit ?_; refine tk_H [cel sb (Rj.map W4 ++ (Wj.map B ++ ([I ((l.length + m.length : Nat) : Int)]))) 214] (congrArg (fun z_ => [cel sb z_ 214]) (show Rj.map W4 ++ (Wj.map B ++ ([I ((l.length + j : Nat) : Int)])) = Rj.map W4 ++ (Wj.map B ++ ([I ((l.length + m.length : Nat) : Int)])) from by rw [show j = m.length by omega])) ?_
    exact tk_ret ((Rj, Wj)) (by have e : j = m.length := (by omega); have h := hI.2; rw [e, List.take_length] at h; exact h) (.inr rfl) (r0 rfl) (List.Sublist.refl _)
end Go.Proofs.YtkkjfojgjmglpaaGreatDoor
set_option linter.unusedSimpArgs false
set_option linter.unusedVariables false
namespace Go.Proofs.YtkkjfojgjmglpaaGreatDoor
open Go Go.RowKit
set_option maxRecDepth 100000
attribute [local irreducible] sumL outB keyedL hmKey xorPad xorI takeZ blockF len8 zc
theorem take_snocG {α : Type} {m : List α} {j : Nat} {d : α} (h : j < m.length) : m.take (j + 1) = m.take j ++ [m.getD j d] := by
  rw [List.take_add_one, List.getD_eq_getElem?_getD]; simp [h]
theorem flat_snoc {ps : List Sb} {j : Nat} {d : Sb} (h : j < ps.length) : (ps.take (j + 1)).flatMap Prod.snd = (ps.take j).flatMap Prod.snd ++ (ps.getD j d).2 := by
  rw [take_snocG (d := d) h, List.flatMap_append]; simp
theorem flat_le {ps : List Sb} {i : Nat} (h : i < ps.length) : ((ps.take i).flatMap Prod.snd).length + (ps.getD i dP).2.length ≤ (ps.flatMap Prod.snd).length := by
  have e : ps.flatMap Prod.snd = (ps.take (i + 1)).flatMap Prod.snd ++ (ps.drop (i + 1)).flatMap Prod.snd := by rw [← List.flatMap_append, List.take_append_drop]
  rw [e, flat_snoc (d := dP) h]; simp
theorem end_spec {sb n : Nat} {R : List UInt32} {W l : List UInt8} {w : World} (hS : SI l R W) (hn : n = l.length) (hb : l.length < 1152921504606846000) (hg : Ro (Fs [cel sb (R.map W4 ++ (W.map B ++ [I ((n : Nat) : Int)])) 214]) w glob)
    (hh : Pre w [cel sb (R.map W4 ++ (W.map B ++ [I ((n : Nat) : Int)])) 214]) :
    Spec Tryz.prog 108 [.pointer (some ⟨sb, 0, none⟩)] w [cel sb (R.map W4 ++ (W.map B ++ [I ((n : Nat) : Int)])) 214] (fun _ : Unit => True) (fun _ => Ag (sumL l)) (fun _ => []) := by
  refine spec_of (n := 56) Tryz.func108 rfl rfl hh.1 hh.2 rfl ?_
  subst hn
  have hR8 := hS.1
  have hW8 := hS.2.1
  refine s_r ?_; refine tk_act rfl ?_; refine a_allocL (cs := (List.replicate 32 0).map B) (by kernel_rfl) rfl fun b2 => ?_; refine s_n ?_; refine s_r ?_; refine s_q rfl (y_move rfl) ?_; refine s_q rfl (y_nilCheck rfl) ?_; refine s_q rfl (y_fldN (o := 0) 72 rfl (by kernel_rfl)) ?_; refine s_q rfl (y_load rfl rfl (hc (o := 72) (.tail _ (.head _)) (gA (k := 8) (i := 64) lenP (by omega) (gA (k := 64) (i := 0) lenP (by omega) (rfl))))) ?_
  refine s_q rfl (y_convi64 (m := l.length) rfl rfl rfl (wrap_u64 (by omega))) ?_; refine s_q rfl (y_shlU (a := l.length) (m := 3) rfl rfl (by decide) (by omega)) ?_; refine s_q rfl (y_assign rfl) ?_; refine s_n ?_; refine s_r ?_; refine s_q rfl (y_move rfl) ?_; refine tk_act rfl ?_; refine a_slitN (vs := [B 128]) rfl (List.forall_mem_cons.2 ⟨rfl, (fun _ h => nomatch h)⟩) (EL42) rfl rfl (by decide) fun b14 => ?_
  refine tk_act rfl ?_; refine tk_perm _ mv2 ?_; refine a_callv [] _ rfl (by kernel_rfl) rfl (fun w' hw' => take_spec (l := l) (m := [128]) (n := l.length) hS (Ro.cel (b := b14) (o := 0) (m := 1) (cp := 1) (vs := [128].map B) hw' (.head _) (rfl) (by first | rfl | exact lenP | (simp; omega)) lenP) lenP lenP (hg.call hw') (St.pre hw')) rfl fun ⟨R0, W0⟩ hS0 => ?_
  dsimp only at hS0 ⊢
  refine s_n ?_; refine tk_seq ?_; refine tk_block ?_; refine tk_H [cel sb (R0.map W4 ++ (W0.map B ++ ([I ((l.length + 1 + 0 : Nat) : Int)]))) 214, cel b14 ([B 128]) 5, cel b2 ((List.replicate 32 0).map B) 27] (congrArg (fun z_ => [cel sb z_ 214, cel b14 ([B 128]) 5, cel b2 ((List.replicate 32 0).map B) 27]) (show R0.map W4 ++ (W0.map B ++ ([I ((l.length + [128].length : Nat) : Int)])) = R0.map W4 ++ (W0.map B ++ ([I ((l.length + 1 + 0 : Nat) : Int)])) from by simp)) ?_
  refine tk_loop (X := Nat × List UInt32 × List UInt8) (fun (j, Rj, Wj) => j ≤ zc l.length ∧ SI (l ++ [128] ++ List.replicate j 0) Rj Wj) (fun (j, Rj, Wj) => [(0, .pointer (some ⟨sb, 0, none⟩)), (2, .pointer (some ⟨b2, 0, none⟩)), (3, .int .u64 ((l.length * 2 ^ 3 : Nat) : Int))]) (fun (j, Rj, Wj) => [cel sb (Rj.map W4 ++ (Wj.map B ++ ([I ((l.length + 1 + j : Nat) : Int)]))) 214, cel b2 ((List.replicate 32 0).map B) 27]) (fun (j, Rj, Wj) => zc l.length - j) ((0, R0, W0)) (⟨Nat.zero_le _, by simpa using hS0⟩) (by repeat (first | exact trivial | refine ⟨rfl, ?_⟩)) ((.cons_cons _ (.cons _ (List.Sublist.refl _)))) ?_
  rintro ⟨j, Rj, Wj⟩ hI
  try dsimp only at hI ⊢
  have hR8 := hI.2.1
  have hW64 := hI.2.2.1
  have hz := zc_def l.length
  refine tk_seq ?_; refine s_r ?_; refine s_q rfl (y_move rfl) ?_; refine s_q rfl (y_nilCheck rfl) ?_; refine s_q rfl (y_fldN (o := 0) 72 rfl (by kernel_rfl)) ?_; refine s_q rfl (y_load rfl rfl (hc (o := 72) (.head _) (gA (k := 8) (i := 64) lenP (by omega) (gA (k := 64) (i := 0) lenP (by omega) (rfl))))) ?_; refine s_q rfl (y_remN (a := l.length + 1 + j) (b := 64) rfl rfl (by omega)) ?_; refine s_q rfl (y_neq rfl rfl) ?_
  refine s_n ?_; refine tk_condP rfl (fun ht21 => ?_) (fun ht21 => ?_)
  · skip
    refine tk_skip ?_; refine tk_then ?_; refine tk_block ?_; refine tk_region ?_; refine s_q rfl (y_move rfl) ?_; refine tk_act rfl ?_; refine a_slitN (vs := [B 0]) rfl (List.forall_mem_cons.2 ⟨rfl, (fun _ h => nomatch h)⟩) (EL42) rfl rfl (by decide) fun b23 => ?_; refine tk_act rfl ?_; refine tk_perm _ mv1 ?_; refine a_callv [] _ rfl (by kernel_rfl) rfl (fun w' hw' => take_spec (l := l ++ [128] ++ List.replicate j 0) (m := [0]) (n := l.length + 1 + j) hI.2 (Ro.cel (b := b23) (o := 0) (m := 1) (cp := 1) (vs := [0].map B) hw' (.head _) (rfl) (by first | rfl | exact lenP | (simp; omega)) lenP) lenP lenP (hg.call hw') (St.pre hw')) rfl fun ⟨R1, W1⟩ hS1 => ?_
    dsimp only at hS1 ⊢
    refine tk_nil ?_; refine tk_in_normal ?_; refine tk_H [cel sb (R1.map W4 ++ (W1.map B ++ ([I ((l.length + 1 + (j + 1) : Nat) : Int)]))) 214, cel b23 ([B 0]) 5, cel b2 ((List.replicate 32 0).map B) 27] (congrArg (fun z_ => [cel sb z_ 214, cel b23 ([B 0]) 5, cel b2 ((List.replicate 32 0).map B) 27]) (show R1.map W4 ++ (W1.map B ++ ([I (((l ++ [128] ++ List.replicate j 0).length + [0].length : Nat) : Int)])) = R1.map W4 ++ (W1.map B ++ ([I ((l.length + 1 + (j + 1) : Nat) : Int)])) from by simp; omega)) ?_
    exact tk_again ((j + 1, R1, W1)) (⟨by omega, by rw [List.replicate_succ', ← List.append_assoc]; exact hS1⟩) (by have h0 := ht21; dsimp only; omega) (by repeat (first | exact trivial | refine ⟨rfl, ?_⟩)) (.cons_cons _ (.cons _ (List.Sublist.refl _)))
  · skip
    refine tk_exit ?_; refine tk_then_exit ?_; refine tk_then_exit ?_; refine tk_in_hit ?_; refine tk_then ?_; refine tk_seq ?_; refine s_r ?_; refine s_q rfl (y_assign rfl) ?_; refine s_n ?_; refine tk_block ?_
    have hj : j = zc l.length := by omega
    refine tk_H [cel sb (Rj.map W4 ++ (Wj.map B ++ ([I ((l.length + 1 + zc l.length + 0 : Nat) : Int)]))) 214, cel b2 ((List.replicate 32 0).map B) 27] (congrArg (fun z_ => [cel sb z_ 214, cel b2 ((List.replicate 32 0).map B) 27]) (show Rj.map W4 ++ (Wj.map B ++ ([I ((l.length + 1 + j : Nat) : Int)])) = Rj.map W4 ++ (Wj.map B ++ ([I ((l.length + 1 + zc l.length + 0 : Nat) : Int)])) from by rw [hj]; rfl)) ?_
    refine tk_loop (X := Nat × List UInt32 × List UInt8) (fun (j, Rj, Wj) => j ≤ 8 ∧ SI (l ++ [128] ++ List.replicate (zc l.length) 0 ++ len8 l.length j) Rj Wj) (fun (j, Rj, Wj) => [(0, .pointer (some ⟨sb, 0, none⟩)), (2, .pointer (some ⟨b2, 0, none⟩)), (3, .int .u64 ((l.length * 2 ^ 3 : Nat) : Int)), (4, I (56 - 8 * (j : Int)))]) (fun (j, Rj, Wj) => [cel sb (Rj.map W4 ++ (Wj.map B ++ ([I ((l.length + 1 + zc l.length + j : Nat) : Int)]))) 214, cel b2 ((List.replicate 32 0).map B) 27]) (fun (j, Rj, Wj) => 8 - j) ((0, Rj, Wj)) (⟨Nat.zero_le _, by have h := hI.2; rw [hj] at h; rw [len8_0, List.append_nil]; exact h⟩) (by repeat (first | exact trivial | refine ⟨rfl, ?_⟩)) ((List.Sublist.refl _)) ?_
    rintro ⟨j, Rj, Wj⟩ hI
    try dsimp only at hI ⊢
    have hR8 := hI.2.1
    have hW64 := hI.2.2.1
    have hz := zc_lt l.length
    refine tk_seq ?_; refine s_r ?_; refine s_q rfl (y_move rfl) ?_; refine s_q rfl (y_geq rfl rfl) ?_; refine s_n ?_; refine tk_condP rfl (fun ht26 => ?_) (fun ht26 => ?_)
    · skip
      refine tk_skip ?_; refine tk_then ?_; refine tk_seq ?_; refine tk_block ?_; refine tk_region ?_; refine tk_re 4 (I (56 - 8 * (j : Int))) (I ((56 - 8 * j : Nat) : Int)) rfl (congrArg I (by omega)) ?_; refine s_q rfl (y_move rfl) ?_; refine s_q rfl (y_move rfl) ?_; refine s_q rfl (y_move rfl) ?_; refine s_q rfl (y_shrN (a := l.length * 2 ^ 3) (m := 56 - 8 * j) rfl rfl (by simp [IntKind.bits]; omega)) ?_
      refine s_q rfl (y_convi8 (m := (l.length * 2 ^ 3) / 2 ^ (56 - 8 * j)) rfl rfl rfl) ?_; refine tk_act rfl ?_; refine a_slitN (vs := [B (UInt8.ofNat ((l.length * 2 ^ 3) / 2 ^ (56 - 8 * j)))]) rfl (List.forall_mem_cons.2 ⟨rfl, (fun _ h => nomatch h)⟩) (EL42) rfl rfl (by decide) fun b34 => ?_; refine tk_act rfl ?_; refine tk_perm _ mv1 ?_; refine a_callv [] _ rfl (by kernel_rfl) rfl (fun w' hw' => take_spec (l := l ++ [128] ++ List.replicate (zc l.length) 0 ++ len8 l.length j) (m := [UInt8.ofNat ((l.length * 2 ^ 3) / 2 ^ (56 - 8 * j))]) (n := l.length + 1 + zc l.length + j) hI.2 (Ro.cel (b := b34) (o := 0) (m := 1) (cp := 1) (vs := [UInt8.ofNat ((l.length * 2 ^ 3) / 2 ^ (56 - 8 * j))].map B) hw' (.head _) (rfl) (by first | rfl | exact lenP | (simp; omega)) lenP) lenP lenP (hg.call hw') (St.pre hw')) rfl fun ⟨R2, W2⟩ hS2 => ?_
      dsimp only at hS2 ⊢
      refine tk_nil ?_; refine tk_in_normal ?_; refine tk_then ?_; refine tk_region ?_; refine tk_re 4 (I ((56 - 8 * j : Nat) : Int)) (I (56 - 8 * (j : Int))) rfl (congrArg I (by omega)) ?_; refine s_q rfl (y_move rfl) ?_; refine s_q rfl (y_subI rfl rfl (by omega)) ?_; refine s_q rfl (y_assign rfl) ?_; refine tk_nil ?_; refine tk_re 4 (I ((56 - 8 * (j : Int)) - (8 : Int))) (I (56 - 8 * ((j + 1 : Nat) : Int))) rfl (congrArg I (by omega)) ?_
      refine tk_H [cel sb (R2.map W4 ++ (W2.map B ++ ([I ((l.length + 1 + zc l.length + (j + 1) : Nat) : Int)]))) 214, cel b34 ([B (UInt8.ofNat ((l.length * 2 ^ 3) / 2 ^ (56 - 8 * j)))]) 5, cel b2 ((List.replicate 32 0).map B) 27] (congrArg (fun z_ => [cel sb z_ 214, cel b34 ([B (UInt8.ofNat ((l.length * 2 ^ 3) / 2 ^ (56 - 8 * j)))]) 5, cel b2 ((List.replicate 32 0).map B) 27]) (show R2.map W4 ++ (W2.map B ++ ([I (((l ++ [128] ++ List.replicate (zc l.length) 0 ++ len8 l.length j).length + [UInt8.ofNat ((l.length * 2 ^ 3) / 2 ^ (56 - 8 * j))].length : Nat) : Int)])) = R2.map W4 ++ (W2.map B ++ ([I ((l.length + 1 + zc l.length + (j + 1) : Nat) : Int)])) from by simp; omega)) ?_
      exact tk_again ((j + 1, R2, W2)) (⟨by omega, by rw [← len8_snoc, ← List.append_assoc]; exact hS2⟩) (by dsimp only; omega) (by repeat (first | exact trivial | refine ⟨rfl, ?_⟩)) (.cons_cons _ (.cons _ (List.Sublist.refl _)))
    · skip
      have hE : SI (pad l) Rj Wj := by have h := hI.2; rw [show j = 8 by omega] at h; exact h
      refine tk_exit ?_; refine tk_then_exit ?_; refine tk_then_exit ?_; refine tk_in_hit ?_; refine tk_then ?_; refine s_r ?_; refine tk_act rfl ?_; refine a_allocL (cs := (List.replicate 32 0).map B) (by kernel_rfl) rfl fun b5 => ?_; refine s_n ?_; refine tk_seq ?_; refine s_r ?_; refine s_q rfl (y_move rfl) ?_; refine s_n ?_; refine tk_block ?_; refine tk_H [cel b5 ((takeZ (outB Rj) 32 0).map B) 27, cel sb (Rj.map W4 ++ (Wj.map B ++ ([I ((l.length + 1 + zc l.length + j : Nat) : Int)]))) 214, cel b2 ((List.replicate 32 0).map B) 27] (congrArg (fun z_ => [cel b5 z_ 27, cel sb (Rj.map W4 ++ (Wj.map B ++ ([I ((l.length + 1 + zc l.length + j : Nat) : Int)]))) 214, cel b2 ((List.replicate 32 0).map B) 27]) (show (List.replicate 32 0).map B = (takeZ (outB Rj) 32 0).map B from by rw [takeZ_0])) ?_
      refine tk_loop (X := Nat) (fun i => i ≤ 32) (fun i => [(0, .pointer (some ⟨sb, 0, none⟩)), (2, .pointer (some ⟨b2, 0, none⟩)), (5, .pointer (some ⟨b5, 0, none⟩)), (36, I ((i : Nat) : Int))]) (fun i => [cel b5 ((takeZ (outB Rj) 32 i).map B) 27, cel sb (Rj.map W4 ++ (Wj.map B ++ ([I ((l.length + 1 + zc l.length + j : Nat) : Int)]))) 214, cel b2 ((List.replicate 32 0).map B) 27]) (fun i => 32 - i) (0) (by first | exact trivial | omega | (dsimp only; omega)) (by repeat (first | exact trivial | refine ⟨rfl, ?_⟩)) ((List.Sublist.refl _)) ?_
      rintro i hI
      try dsimp only at hI ⊢
      have hz : (takeZ (outB Rj) 32 i).length = 32 := takeZ_len outB_len (by omega)
      refine s_r ?_; refine s_q rfl (y_lss rfl rfl) ?_; refine s_n ?_; refine tk_seq ?_; refine tk_condP rfl (fun ht37 => ?_) (fun ht37 => ?_)
      · skip
        refine tk_skip ?_; refine tk_then ?_; refine tk_seq ?_; refine tk_block ?_; refine s_r ?_; refine s_q rfl (y_move rfl) ?_; refine s_q rfl (y_assign rfl) ?_; refine s_n ?_; refine tk_region ?_; refine s_q rfl (y_move rfl) ?_; refine s_q rfl (y_move rfl) ?_; refine s_q rfl (y_move rfl) ?_; refine s_q rfl (y_quoN (a := i) (b := 4) rfl rfl (by omega)) ?_; refine s_q rfl (y_nilCheck rfl) ?_; refine s_q rfl (y_fld0 (o := 0) rfl (by kernel_rfl)) ?_
        refine s_q rfl (y_ixA01 8 (i := i / 4) rfl rfl (by kernel_rfl) (by omega)) ?_; refine s_q rfl (y_load rfl rfl (hc (o := i / 4) (.tail _ (.head _)) (gM1 (d := 0) lenP))) ?_; refine s_q rfl (y_move rfl) ?_; refine s_q rfl (y_remN (a := i) (b := 4) rfl rfl (by omega)) ?_; refine s_q rfl (y_mulN (a := 8) (b := i % 4) rfl rfl (by omega)) ?_; refine s_q rfl (y_subN (a := 24) (b := 8 * (i % 4)) rfl rfl (by omega)) ?_
        refine s_q rfl (y_shrW (a := Rj.getD (i / 4) 0) (m := 24 - (8 * (i % 4))) rfl rfl (by omega)) ?_; refine s_q rfl (y_convW8 (a := (Rj.getD (i / 4) 0) >>> UInt32.ofNat (24 - (8 * (i % 4)))) rfl rfl rfl) ?_; refine s_q rfl (y_ixA01 32 (i := i) rfl rfl (by kernel_rfl) (by omega)) ?_; refine tk_act rfl ?_; refine a_storeE (H1 := []) (o := i) (v := B (((Rj.getD (i / 4) 0) >>> UInt32.ofNat (24 - (8 * (i % 4)))).toUInt8)) (cs' := ((takeZ (outB Rj) 32 i).set i (((Rj.getD (i / 4) 0) >>> UInt32.ofNat (24 - (8 * (i % 4)))).toUInt8)).map B) rfl rfl (by kernel_rfl) rfl rfl (by first | (simp; done) | (simp; omega)) (sM) ?_
        refine tk_nil ?_; refine tk_in_normal ?_; refine tk_then ?_; refine tk_region ?_; refine s_q rfl (y_addN (a := i) (b := 1) rfl rfl (by omega)) ?_; refine s_q rfl (y_move rfl) ?_; refine tk_nil ?_; refine tk_H [cel b5 ((takeZ (outB Rj) 32 (i + 1)).map B) 27, cel sb (Rj.map W4 ++ (Wj.map B ++ ([I ((l.length + 1 + zc l.length + j : Nat) : Int)]))) 214, cel b2 ((List.replicate 32 0).map B) 27] (congrArg (fun z_ => [cel b5 z_ 27, cel sb (Rj.map W4 ++ (Wj.map B ++ ([I ((l.length + 1 + zc l.length + j : Nat) : Int)]))) 214, cel b2 ((List.replicate 32 0).map B) 27]) (show ((takeZ (outB Rj) 32 i).set i (((Rj.getD (i / 4) 0) >>> UInt32.ofNat (24 - (8 * (i % 4)))).toUInt8)).map B = (takeZ (outB Rj) 32 (i + 1)).map B from congrArg (List.map B) (outZ_set (by omega)))) ?_
        exact tk_again (i + 1) (by first | exact trivial | omega | (dsimp only; omega)) (by first | omega | (dsimp only; omega)) (by repeat (first | exact trivial | refine ⟨rfl, ?_⟩)) (List.Sublist.refl _)
      · skip
        refine tk_H [cel b5 ((sumL l).map B) 27, cel sb (Rj.map W4 ++ (Wj.map B ++ ([I ((l.length + 1 + zc l.length + j : Nat) : Int)]))) 214, cel b2 ((List.replicate 32 0).map B) 27] (congrArg (fun z_ => [cel b5 z_ 27, cel sb (Rj.map W4 ++ (Wj.map B ++ ([I ((l.length + 1 + zc l.length + j : Nat) : Int)]))) 214, cel b2 ((List.replicate 32 0).map B) 27]) (show (takeZ (outB Rj) 32 i).map B = (sumL l).map B from by rw [show i = 32 by omega, takeZ_all outB_len, sum_end hE])) ?_
        refine tk_exit ?_; refine tk_then_exit ?_; refine tk_then_exit ?_; refine tk_in_hit ?_; refine tk_then ?_; refine s_r ?_; refine s_q rfl (y_loadA 32 rfl (by kernel_rfl) lenP (hcw (.head _))) ?_; refine tk_act rfl ?_; refine a_storeW (H1 := [_, _]) (vs := (sumL l).map B) 32 rfl rfl (by kernel_rfl) rfl ⟨lenP, lenP⟩ oneB ?_; refine s_n ?_; refine tk_retc ?_
        exact tk_ret (()) (trivial) (.inl rfl) (rc (vs := (sumL l).map B) rfl rfl (by simp; kernel_rfl) (hcw (.tail _ (.tail _ (.head _))))) (List.nil_sublist _)
theorem of_spec {v : Value} {ps : List Sb} {L : List UInt8} {w : World} (hv : Ro (Fs []) w (rd v (ps.map Prod.fst))) (hp : ∀ p ∈ ps, Ro (Fs []) w (rdB p.1 p.2)) (hL : ps.flatMap Prod.snd = L) (hb : L.length < 1152921504606846000) (hn : ps.length < 4611686018427387904) (hg : Ro (Fs []) w glob) :
    Spec Tryz.prog 59 [v] w [] (fun _ : Unit => True) (fun _ => Ag (sumL L)) (fun _ => []) := by
  refine spec_of (n := 18) Tryz.func59 rfl rfl trivial trivial rfl ?_
  have h8 : beginL.length = 8 := rfl
  have hLl : (ps.flatMap Prod.snd).length = L.length := by rw [hL]
  refine s_r ?_; refine tk_act rfl ?_; refine a_allocL (cs := (List.replicate 32 0).map B) (by kernel_rfl) rfl fun b2 => ?_; refine s_n ?_; refine s_r ?_; refine s_q rfl (y_loadA (vs := beginL.map W4) 8 rfl (by kernel_rfl) rfl (fun w hw j u hj => by rw [add_w, Nat.zero_add]; exact (Ro.st (p := glob) hg hw).1 _ _ hj)) ?_; refine s_q rfl (y_build (v := .agg (beginL.map W4 ++ ((List.replicate 64 0).map B ++ ([I 0]))).toArray) (vs := [(0, .agg (beginL.map W4).toArray)]) rfl (fun _ => by kernel_rfl)) ?_
  refine tk_act rfl ?_; refine a_allocL (cs := (List.replicate 8 0).map W4 ++ ((List.replicate 64 0).map B ++ ([I 0]))) (by kernel_rfl) rfl fun b3 => ?_; refine tk_act rfl ?_; refine a_storeW (H1 := []) (vs := beginL.map W4 ++ ((List.replicate 64 0).map B ++ ([I 0]))) 73 rfl rfl (by kernel_rfl) rfl ⟨lenP, lenP⟩ (List.forall_mem_append.2 ⟨oneW, (List.forall_mem_append.2 ⟨oneB, (List.forall_mem_cons.2 ⟨rfl, (fun _ h => nomatch h)⟩)⟩)⟩) ?_
  refine s_n ?_; refine tk_seq ?_; refine s_r ?_; refine s_q rfl (y_move rfl) ?_; refine s_q rfl (y_lenRN (n' := ps.length) rfl hv.1 rfl (by first | rfl | (rw [List.length_map]; omega) | simp)) ?_; refine s_q rfl (y_move rfl) ?_; refine s_n ?_; refine tk_block ?_; refine tk_loop (X := Nat × List UInt32 × List UInt8) (fun (j, Rj, Wj) => j ≤ ps.length ∧ SI ((ps.take j).flatMap Prod.snd) Rj Wj) (fun (j, Rj, Wj) => [(2, .pointer (some ⟨b2, 0, none⟩)), (3, .pointer (some ⟨b3, 0, none⟩)), (8, v), (9, I ((ps.length : Nat) : Int)), (10, I ((j : Nat) : Int))]) (fun (j, Rj, Wj) => [cel b3 (Rj.map W4 ++ (Wj.map B ++ ([I ((((ps.take j).flatMap Prod.snd).length : Nat) : Int)]))) 214, cel b2 ((List.replicate 32 0).map B) 27]) (fun (j, Rj, Wj) => ps.length - j) ((0, beginL, List.replicate 64 0)) (⟨Nat.zero_le _, SI_zero (by simp)⟩) (by repeat (first | exact trivial | refine ⟨rfl, ?_⟩)) ((List.Sublist.refl _)) ?_
  rintro ⟨j, Rj, Wj⟩ hI
  try dsimp only at hI ⊢
  have hR8 := hI.2.1
  have hW64 := hI.2.2.1
  have hfl : ∀ i, i < ps.length → ((ps.take i).flatMap Prod.snd).length + (ps.getD i dP).2.length ≤ (ps.flatMap Prod.snd).length := fun i hi => flat_le hi
  refine s_r ?_; refine s_q rfl (y_lss rfl rfl) ?_; refine s_n ?_; refine tk_seq ?_; refine tk_condP rfl (fun ht11 => ?_) (fun ht11 => ?_)
  · skip
    refine tk_skip ?_; refine tk_then ?_; refine tk_seq ?_; refine tk_block ?_; refine s_r ?_; refine s_q rfl (y_ixR (j := j) rfl rfl hv.1 lenP (by kernel_rfl)) ?_; refine s_q rfl (y_load rfl rfl (fun w hw => ((fun w hw => Ro.rd hv hw) w hw).cell (gM (f := Prod.fst) (d := dP) lenP))) ?_; refine s_q rfl (y_assign rfl) ?_; refine s_n ?_; refine tk_region ?_; refine s_q rfl (y_move rfl) ?_
    have hfj := hfl j (by omega)
    refine tk_act rfl ?_; refine a_callv [] _ rfl (by kernel_rfl) rfl (fun w' hw' => take_spec (l := (ps.take j).flatMap Prod.snd) (m := (ps.getD j dP).2) (n := ((ps.take j).flatMap Prod.snd).length) hI.2 (Ro.call (hp _ (getD_mem lenP)) hw') lenP lenP (hg.call hw') (St.pre hw')) rfl fun ⟨R0, W0⟩ hS0 => ?_
    dsimp only at hS0 ⊢
    refine tk_nil ?_; refine tk_in_normal ?_; refine tk_then ?_; refine tk_region ?_; refine s_q rfl (y_addN (a := j) (b := 1) rfl rfl (by omega)) ?_; refine s_q rfl (y_move rfl) ?_; refine tk_nil ?_; refine tk_H [cel b3 (R0.map W4 ++ (W0.map B ++ ([I ((((ps.take (j + 1)).flatMap Prod.snd).length : Nat) : Int)]))) 214, cel b2 ((List.replicate 32 0).map B) 27] (congrArg (fun z_ => [cel b3 z_ 214, cel b2 ((List.replicate 32 0).map B) 27]) (show R0.map W4 ++ (W0.map B ++ ([I ((((ps.take j).flatMap Prod.snd).length + ((ps.getD j dP).2).length : Nat) : Int)])) = R0.map W4 ++ (W0.map B ++ ([I ((((ps.take (j + 1)).flatMap Prod.snd).length : Nat) : Int)])) from by rw [flat_snoc (d := dP) (by omega), List.length_append])) ?_
    exact tk_again ((j + 1, R0, W0)) (⟨by omega, by rw [flat_snoc (by omega)]; exact hS0⟩) (by first | omega | (dsimp only; omega)) (by repeat (first | exact trivial | refine ⟨rfl, ?_⟩)) (List.Sublist.refl _)
  · skip
    have hE : SI L Rj Wj := by have h := hI.2; rw [show j = ps.length by omega, List.take_length, hL] at h; exact h
    refine tk_H [cel b3 (Rj.map W4 ++ (Wj.map B ++ ([I ((L.length : Nat) : Int)]))) 214, cel b2 ((List.replicate 32 0).map B) 27] (congrArg (fun z_ => [cel b3 z_ 214, cel b2 ((List.replicate 32 0).map B) 27]) (show Rj.map W4 ++ (Wj.map B ++ ([I ((((ps.take j).flatMap Prod.snd).length : Nat) : Int)])) = Rj.map W4 ++ (Wj.map B ++ ([I ((L.length : Nat) : Int)])) from by rw [show j = ps.length by omega, List.take_length, hL])) ?_
    refine tk_exit ?_; refine tk_then_exit ?_; refine tk_then_exit ?_; refine tk_in_hit ?_; refine tk_then ?_; refine s_r ?_; refine tk_act rfl ?_; refine a_callv [] _ rfl (by kernel_rfl) rfl (fun w' hw' => end_spec (l := L) hE lenP lenP (hg.call hw') (St.pre hw')) rfl fun _ _ => ?_; refine tk_act rfl ?_; refine a_storeW (H1 := []) (vs := (sumL L).map B) 32 rfl rfl (by kernel_rfl) rfl ⟨lenP, lenP⟩ oneB ?_
    refine s_n ?_; refine tk_retc ?_
    exact tk_ret (()) (trivial) (.inl rfl) (rc (vs := (sumL L).map B) rfl rfl (by simp; kernel_rfl) (hcw (.head _))) (List.nil_sublist _)
theorem keyed_spec {kv v : Value} {k : List UInt8} {ps : List Sb} {L : List UInt8} {w : World} (hk : Ro (Fs []) w (rdB kv k)) (hv : Ro (Fs []) w (rd v (ps.map Prod.fst))) (hp : ∀ p ∈ ps, Ro (Fs []) w (rdB p.1 p.2)) (hL : ps.flatMap Prod.snd = L)
    (hb : k.length < 1099511627776 ∧ L.length < 1099511627776 ∧ ps.length < 1099511627776) (hg : Ro (Fs []) w glob) :
    Spec Tryz.prog 186 [kv, v] w [] (fun _ : Unit => True) (fun _ => Ag (keyedL k L)) (fun _ => []) := by
  refine spec_of (n := 46) Tryz.func186 rfl rfl trivial trivial rfl ?_; refine s_r ?_; refine tk_act rfl ?_; refine a_allocL (cs := (List.replicate 32 0).map B) (by kernel_rfl) rfl fun b4 => ?_; refine s_n ?_; refine tk_seq ?_; refine s_r ?_; refine s_q rfl (y_move rfl) ?_; refine s_q rfl (y_lenRN (n' := k.length) rfl hk.1 rfl (by first | rfl | (rw [List.length_map]; omega) | simp)) ?_; refine s_q rfl (y_gtr rfl rfl) ?_
  refine s_n ?_; refine tk_condP rfl (fun ht12 => ?_) (fun ht12 => ?_)
  · skip
    have hk0 : hmKey k = sumL (k) := by unfold hmKey; rw [if_pos (by omega)]
    have hk1 : (sumL (k)).length = 32 := sumL_len
    refine s_r ?_; refine s_q rfl (y_move rfl) ?_; refine tk_act rfl ?_; refine a_slitN (vs := [kv]) rfl (List.forall_mem_cons.2 ⟨(RdS.one hk.1), (fun _ h => nomatch h)⟩) (EL206) rfl rfl (by decide) fun b14 => ?_; refine tk_act rfl ?_; refine a_callv [] _ rfl (by kernel_rfl) rfl (fun w' hw' => of_spec (ps := [(kv, k)]) (L := k) (Ro.cel (vs := [kv]) hw' (.head _) (by first | rfl | simp) rfl (by decide)) (List.forall_mem_cons.2 ⟨(Ro.call (H0 := []) hk hw'), (fun _ h => nomatch h)⟩) (by simp) lenP lenP (hg.call hw')) rfl fun _ _ => ?_
    refine tk_act rfl ?_; refine a_allocL (cs := (List.replicate 32 0).map B) (by kernel_rfl) rfl fun b5 => ?_; refine tk_act rfl ?_; refine a_storeW (H1 := []) (vs := (sumL k).map B) 32 rfl rfl (by kernel_rfl) rfl ⟨lenP, lenP⟩ oneB ?_; refine s_n ?_; refine tk_region ?_; refine s_q rfl (y_cutA (m := 32) (sz := 1) rfl (by kernel_rfl)) ?_; refine s_q rfl (y_assign rfl) ?_; refine s_n ?_; refine s_r ?_
    refine tk_act rfl ?_; refine a_allocL (cs := (List.replicate 64 0).map B) (by kernel_rfl) rfl fun b6 => ?_; refine tk_act rfl ?_; refine a_allocL (cs := (List.replicate 64 0).map B) (by kernel_rfl) rfl fun b7 => ?_; refine s_n ?_; refine s_r ?_; refine s_q rfl (y_cutA (m := 64) (sz := 1) rfl (by kernel_rfl)) ?_; refine s_q rfl (y_move rfl) ?_; refine tk_act rfl ?_; refine a_copyR (H1 := [_]) (pre := []) (mid := (List.replicate (sumL k).length 0).map B) (post := (List.replicate (64 - (sumL k).length) 0).map B) (vs := (sumL k).map B) (us := (sumL k).map B) (cs' := (xorI (hmKey k) 54 0).map B) rfl rfl rfl (by kernel_rfl) rfl rfl (fun w hw => cel_rdE (o := 0) (m := 32) (cp := 32) (vs := (sumL k).map B) (hw.mem (.tail _ (.tail _ (.head _)))) (dsW) (by first | rfl | exact lenP | (simp; omega)) lenP) (m := (sumL k).length) lenP (by rw [List.take_of_length_le (by simp)]) oneB ⟨by simp, rfl⟩ (by rw [List.nil_append, ← List.map_append, List.replicate_append_replicate]; congr 2; omega) (by rw [xorI_0 hmKey_len, List.map_append, List.nil_append, hk0]) ?_
    refine s_n ?_; refine s_r ?_; refine s_q rfl (y_cutA (m := 64) (sz := 1) rfl (by kernel_rfl)) ?_; refine s_q rfl (y_move rfl) ?_; refine tk_act rfl ?_; refine a_copyR (H1 := []) (pre := []) (mid := (List.replicate (sumL k).length 0).map B) (post := (List.replicate (64 - (sumL k).length) 0).map B) (vs := (sumL k).map B) (us := (sumL k).map B) (cs' := (xorI (hmKey k) 92 0).map B) rfl rfl rfl (by kernel_rfl) rfl rfl (fun w hw => cel_rdE (o := 0) (m := 32) (cp := 32) (vs := (sumL k).map B) (hw.mem (.tail _ (.tail _ (.head _)))) (dsW) (by first | rfl | exact lenP | (simp; omega)) lenP) (m := (sumL k).length) lenP (by rw [List.take_of_length_le (by simp)]) oneB ⟨by simp, rfl⟩ (by rw [List.nil_append, ← List.map_append, List.replicate_append_replicate]; congr 2; omega) (by rw [xorI_0 hmKey_len, List.map_append, List.nil_append, hk0]) ?_
    refine s_n ?_; refine tk_seq ?_; refine s_r ?_; refine s_q rfl (y_move rfl) ?_; refine s_n ?_; refine tk_block ?_; refine tk_loop (X := Nat) (fun i => i ≤ 64) (fun i => [(1, v), (4, .pointer (some ⟨b4, 0, none⟩)), (6, .pointer (some ⟨b6, 0, none⟩)), (7, .pointer (some ⟨b7, 0, none⟩)), (23, I ((i : Nat) : Int))]) (fun i => [cel b7 ((xorI (hmKey k) 92 i).map B) 212, cel b6 ((xorI (hmKey k) 54 i).map B) 212, cel b5 ((sumL k).map B) 27, cel b14 ([kv]) 42, cel b4 ((List.replicate 32 0).map B) 27]) (fun i => 64 - i) (0) (by first | exact trivial | omega | (dsimp only; omega)) (by repeat (first | exact trivial | refine ⟨rfl, ?_⟩)) ((List.Sublist.refl _)) ?_
    rintro i hI
    try dsimp only at hI ⊢
    have hx1 : (xorI (hmKey k) 54 i).length = 64 := xorI_len
    have hx2 : (xorI (hmKey k) 92 i).length = 64 := xorI_len
    refine s_r ?_; refine s_q rfl (y_lss rfl rfl) ?_; refine s_n ?_; refine tk_seq ?_; refine tk_condP rfl (fun ht24 => ?_) (fun ht24 => ?_)
    · skip
      refine tk_skip ?_; refine tk_then ?_; refine tk_seq ?_; refine tk_block ?_; refine s_r ?_; refine s_q rfl (y_move rfl) ?_; refine s_q rfl (y_assign rfl) ?_; refine s_n ?_; refine s_r ?_; refine s_q rfl (y_move rfl) ?_; refine s_q rfl (y_ixA01 64 (i := i) rfl rfl (by kernel_rfl) (by omega)) ?_; refine s_q rfl (y_load rfl rfl (hc (o := i) (.tail _ (.head _)) (gM (d := 0) lenP))) ?_; refine s_q rfl (y_xor8 (a := (xorI (hmKey k) 54 i).getD i 0) (b := 54) rfl rfl) ?_
      refine s_q rfl (y_ixA01 64 (i := i) rfl rfl (by kernel_rfl) (by omega)) ?_; refine tk_act rfl ?_; refine a_storeE (H1 := [_]) (o := i) (v := B (((xorI (hmKey k) 54 i).getD i 0) ^^^ 54)) (cs' := ((xorI (hmKey k) 54 i).set i (((xorI (hmKey k) 54 i).getD i 0) ^^^ 54)).map B) rfl rfl (by kernel_rfl) rfl rfl (by first | (simp; done) | (simp; omega)) (sM) ?_; refine s_n ?_; refine tk_region ?_; refine s_q rfl (y_move rfl) ?_
      refine s_q rfl (y_ixA01 64 (i := i) rfl rfl (by kernel_rfl) (by omega)) ?_; refine s_q rfl (y_load rfl rfl (hc (o := i) (.head _) (gM (d := 0) lenP))) ?_; refine s_q rfl (y_xor8 (a := (xorI (hmKey k) 92 i).getD i 0) (b := 92) rfl rfl) ?_; refine s_q rfl (y_ixA01 64 (i := i) rfl rfl (by kernel_rfl) (by omega)) ?_; refine tk_act rfl ?_; refine a_storeE (H1 := []) (o := i) (v := B (((xorI (hmKey k) 92 i).getD i 0) ^^^ 92)) (cs' := ((xorI (hmKey k) 92 i).set i (((xorI (hmKey k) 92 i).getD i 0) ^^^ 92)).map B) rfl rfl (by kernel_rfl) rfl rfl (by first | (simp; done) | (simp; omega)) (sM) ?_
      refine tk_nil ?_; refine tk_in_normal ?_; refine tk_then ?_; refine tk_region ?_; refine s_q rfl (y_addN (a := i) (b := 1) rfl rfl (by omega)) ?_; refine s_q rfl (y_move rfl) ?_; refine tk_nil ?_; refine tk_H [cel b7 (((xorI (hmKey k) 92 i).set i (((xorI (hmKey k) 92 i).getD i 0) ^^^ 92)).map B) 212, cel b6 ((xorI (hmKey k) 54 (i + 1)).map B) 212, cel b5 ((sumL k).map B) 27, cel b14 ([kv]) 42, cel b4 ((List.replicate 32 0).map B) 27] (congrArg (fun z_ => [cel b7 (((xorI (hmKey k) 92 i).set i (((xorI (hmKey k) 92 i).getD i 0) ^^^ 92)).map B) 212, cel b6 z_ 212, cel b5 ((sumL k).map B) 27, cel b14 ([kv]) 42, cel b4 ((List.replicate 32 0).map B) 27]) (show ((xorI (hmKey k) 54 i).set i (((xorI (hmKey k) 54 i).getD i 0) ^^^ 54)).map B = (xorI (hmKey k) 54 (i + 1)).map B from congrArg (List.map B) (xorI_set (by omega)))) ?_
      refine tk_H [cel b7 ((xorI (hmKey k) 92 (i + 1)).map B) 212, cel b6 ((xorI (hmKey k) 54 (i + 1)).map B) 212, cel b5 ((sumL k).map B) 27, cel b14 ([kv]) 42, cel b4 ((List.replicate 32 0).map B) 27] (congrArg (fun z_ => [cel b7 z_ 212, cel b6 ((xorI (hmKey k) 54 (i + 1)).map B) 212, cel b5 ((sumL k).map B) 27, cel b14 ([kv]) 42, cel b4 ((List.replicate 32 0).map B) 27]) (show ((xorI (hmKey k) 92 i).set i (((xorI (hmKey k) 92 i).getD i 0) ^^^ 92)).map B = (xorI (hmKey k) 92 (i + 1)).map B from congrArg (List.map B) (xorI_set (by omega)))) ?_
      exact tk_again (i + 1) (by first | exact trivial | omega | (dsimp only; omega)) (by first | omega | (dsimp only; omega)) (by repeat (first | exact trivial | refine ⟨rfl, ?_⟩)) (List.Sublist.refl _)
    · skip
      refine tk_H [cel b7 ((xorI (hmKey k) 92 i).map B) 212, cel b6 ((xorPad (hmKey k) 54).map B) 212, cel b5 ((sumL k).map B) 27, cel b14 ([kv]) 42, cel b4 ((List.replicate 32 0).map B) 27] (congrArg (fun z_ => [cel b7 ((xorI (hmKey k) 92 i).map B) 212, cel b6 z_ 212, cel b5 ((sumL k).map B) 27, cel b14 ([kv]) 42, cel b4 ((List.replicate 32 0).map B) 27]) (show (xorI (hmKey k) 54 i).map B = (xorPad (hmKey k) 54).map B from by rw [show i = 64 by omega, xorI_64])) ?_
      refine tk_H [cel b7 ((xorPad (hmKey k) 92).map B) 212, cel b6 ((xorPad (hmKey k) 54).map B) 212, cel b5 ((sumL k).map B) 27, cel b14 ([kv]) 42, cel b4 ((List.replicate 32 0).map B) 27] (congrArg (fun z_ => [cel b7 z_ 212, cel b6 ((xorPad (hmKey k) 54).map B) 212, cel b5 ((sumL k).map B) 27, cel b14 ([kv]) 42, cel b4 ((List.replicate 32 0).map B) 27]) (show (xorI (hmKey k) 92 i).map B = (xorPad (hmKey k) 92).map B from by rw [show i = 64 by omega, xorI_64])) ?_
      refine tk_exit ?_; refine tk_then_exit ?_; refine tk_then_exit ?_; refine tk_in_hit ?_; refine tk_then ?_; refine s_r ?_; refine s_q rfl (y_cutA (m := 64) (sz := 1) rfl (by kernel_rfl)) ?_; refine tk_act rfl ?_; refine a_slitN (vs := [.slice (some ⟨b6, 0, none⟩) 64 64]) rfl (List.forall_mem_cons.2 ⟨rfl, (fun _ h => nomatch h)⟩) (EL206) rfl rfl (by decide) fun b38 => ?_; refine s_q rfl (y_move rfl) ?_
      refine tk_celOwn (H1 := []) (e := 42) (n := 1) rfl (by simp) (by simp [maxLen]) ?_; refine tk_act rfl ?_; refine a_appendR (H1 := []) (n := 1) (xs := [.slice (some ⟨b6, 0, none⟩) 64 64]) (news := ps.map Prod.fst) rfl rfl EL206 rfl rfl (fun w hw => Ro.rd hv hw) (by intro u hu; obtain ⟨p, hp1, rfl⟩ := List.mem_map.1 hu; exact (hp p hp1).1.one) lenP fun v40 => ?_; refine tk_act rfl ?_; refine a_callv [] _ rfl (by kernel_rfl) rfl (fun w' hw' => of_spec (ps := (.slice (some ⟨b6, 0, none⟩) 64 64, xorPad (hmKey k) 54) :: ps) (L := xorPad (hmKey k) 54 ++ L) (Ro.own (H0 := []) (n := 1 + (ps.map Prod.fst).length) hw' (.head _)) (List.forall_mem_cons.2 ⟨(Ro.cel (H0 := []) (b := b6) (o := 0) (m := 64) (cp := 64) (vs := (xorPad (hmKey k) 54).map B) hw' (.tail _ (.tail _ (.head _))) (dsW) (by first | rfl | exact lenP | (simp; omega)) lenP), fun p hp0 => (hp p hp0).call hw'⟩) (by simp [hL]) lenP (by simp; omega) (hg.call hw')) rfl fun _ _ => ?_
      refine tk_act rfl ?_; refine a_allocL (cs := (List.replicate 32 0).map B) (by kernel_rfl) rfl fun b9 => ?_; refine tk_act rfl ?_; refine a_storeW (H1 := []) (vs := (sumL (xorPad (hmKey k) 54 ++ L)).map B) 32 rfl rfl (by kernel_rfl) rfl ⟨lenP, lenP⟩ oneB ?_; refine s_n ?_; refine tk_seq ?_; refine tk_drawH [cel b9 ((sumL (xorPad (hmKey k) 54 ++ L)).map B) 27, own v40 (1 + (ps.map Prod.fst).length) ([.slice (some ⟨b6, 0, none⟩) 64 64] ++ ps.map Prod.fst) 42 1, cel b7 ((xorPad (hmKey k) 92).map B) 212, cel b6 ((xorPad (hmKey k) 54).map B) 212, cel b5 ((sumL k).map B) 27, cel b14 ([kv]) 42] [] (by kernel_rfl) ?_
      refine s_x 0 rfl (y_cutA (m := 64) (sz := 1) rfl (by kernel_rfl)) ?_; refine s_x 1 rfl (y_cutA (m := 32) (sz := 1) rfl (by kernel_rfl)) ?_; refine tx_a 2 rfl (by kernel_rfl) rfl ?_; refine a_slitN (vs := [.slice (some ⟨b7, 0, none⟩) 64 64, .slice (some ⟨b9, 0, none⟩) 32 32]) rfl (List.forall_mem_cons.2 ⟨rfl, (List.forall_mem_cons.2 ⟨rfl, (fun _ h => nomatch h)⟩)⟩) (EL206) rfl rfl (by decide) fun b44 => ?_
      refine tk_S (fun _ h => h.sub (.cons _ (.cons_cons _ (.cons_cons _ (.cons_cons _ (.cons_cons _ (.cons_cons _ (.cons_cons _ (List.nil_sublist _))))))))) ?_; refine tx_more [cel b44 ([Value.slice (some ⟨b7, 0, none⟩) 64 64, .slice (some ⟨b9, 0, none⟩) 32 32]) 42, cel b9 ((sumL (xorPad (hmKey k) 54 ++ L)).map B) 27, own v40 (1 + (ps.map Prod.fst).length) ([.slice (some ⟨b6, 0, none⟩) 64 64] ++ ps.map Prod.fst) 42 1, cel b7 ((xorPad (hmKey k) 92).map B) 212, cel b6 ((xorPad (hmKey k) 54).map B) 212, cel b5 ((sumL k).map B) 27, cel b14 ([kv]) 42] (fun _ h => h.sub (.cons _ (List.Sublist.refl _))) (fun _ h => h.sub (.cons_cons _ (.cons_cons _ (.cons_cons _ (.cons_cons _ (.cons_cons _ (.cons_cons _ (.cons_cons _ (List.nil_sublist _))))))))) ?_
      refine tx_a 3 rfl (by kernel_rfl) rfl ?_; refine a_callv [] _ rfl (by kernel_rfl) rfl (fun w' hw' => of_spec (ps := [(.slice (some ⟨b7, 0, none⟩) 64 64, xorPad (hmKey k) 92), (.slice (some ⟨b9, 0, none⟩) 32 32, sumL (xorPad (hmKey k) 54 ++ L))]) (L := (xorPad (hmKey k) 92) ++ (sumL (xorPad (hmKey k) 54 ++ L))) (Ro.cel (vs := [.slice (some ⟨b7, 0, none⟩) 64 64, .slice (some ⟨b9, 0, none⟩) 32 32]) hw' (.head _) (by first | rfl | simp) rfl (by decide)) (List.forall_mem_cons.2 ⟨(Ro.cel (H0 := []) (b := b7) (o := 0) (m := 64) (cp := 64) (vs := (xorPad (hmKey k) 92).map B) hw' (.tail _ (.tail _ (.tail _ (.head _)))) (dsW) (by first | rfl | exact lenP | (simp; omega)) lenP), (List.forall_mem_cons.2 ⟨(Ro.cel (H0 := []) (b := b9) (o := 0) (m := 32) (cp := 32) (vs := (sumL (xorPad (hmKey k) 54 ++ L)).map B) hw' (.tail _ (.head _)) (dsW) (by first | rfl | exact lenP | (simp; omega)) lenP), (fun _ h => nomatch h)⟩)⟩) (by simp) lenP lenP (hg.call hw')) rfl fun _ _ => ?_
      refine tk_S (fun _ h => h.sub (.cons_cons _ (.cons_cons _ (.cons_cons _ (.cons_cons _ (.cons_cons _ (.cons_cons _ (.cons_cons _ (List.nil_sublist _))))))))) ?_; refine tk_re 45 (.agg ((sumL ((xorPad (hmKey k) 92) ++ (sumL (xorPad (hmKey k) 54 ++ L)))).map B).toArray) (.agg ((keyedL k L).map B).toArray) rfl (by simp only [keyedL]) ?_; refine tx_a 4 rfl (by kernel_rfl) rfl ?_; refine a_storeW (H1 := [_, _, _, _, _, _, _]) (vs := (keyedL k L).map B) 32 rfl rfl (by kernel_rfl) rfl ⟨lenP, lenP⟩ oneB ?_
      refine tk_S (fun _ h => h.sub (.cons_cons _ (.cons_cons _ (.cons_cons _ (.cons_cons _ (.cons_cons _ (.cons_cons _ (.cons_cons _ (List.nil_sublist _))))))))) ?_; refine tx_done (by kernel_rfl) ?_; refine tk_then ?_; refine tk_retc ?_
      exact tk_ret (()) (trivial) (.inl rfl) (rc (vs := (keyedL k L).map B) rfl rfl (by simp; kernel_rfl) (hcw (.tail _ (.tail _ (.tail _ (.tail _ (.tail _ (.tail _ (.tail _ (.head _)))))))))) (List.nil_sublist _)
  · skip
    have hk0 : hmKey k = k := by unfold hmKey; rw [if_neg (by omega)]
    refine tk_skip ?_; refine tk_then ?_; refine s_r ?_; refine tk_act rfl ?_; refine a_allocL (cs := (List.replicate 64 0).map B) (by kernel_rfl) rfl fun b6 => ?_; refine tk_act rfl ?_; refine a_allocL (cs := (List.replicate 64 0).map B) (by kernel_rfl) rfl fun b7 => ?_; refine s_n ?_; refine s_r ?_; refine s_q rfl (y_cutA (m := 64) (sz := 1) rfl (by kernel_rfl)) ?_; refine s_q rfl (y_move rfl) ?_
    refine tk_act rfl ?_; refine a_copyR (H1 := [_]) (pre := []) (mid := (List.replicate (k).length 0).map B) (post := (List.replicate (64 - (k).length) 0).map B) (vs := (k).map B) (us := (k).map B) (cs' := (xorI (hmKey k) 54 0).map B) rfl rfl rfl (by kernel_rfl) rfl rfl (fun w hw => Ro.rd hk hw) (m := (k).length) lenP (by rw [List.take_of_length_le (by simp)]) oneB ⟨by simp, rfl⟩ (by rw [List.nil_append, ← List.map_append, List.replicate_append_replicate]; congr 2; omega) (by rw [xorI_0 hmKey_len, List.map_append, List.nil_append, hk0]) ?_
    refine s_n ?_; refine s_r ?_; refine s_q rfl (y_cutA (m := 64) (sz := 1) rfl (by kernel_rfl)) ?_; refine s_q rfl (y_move rfl) ?_; refine tk_act rfl ?_; refine a_copyR (H1 := []) (pre := []) (mid := (List.replicate (k).length 0).map B) (post := (List.replicate (64 - (k).length) 0).map B) (vs := (k).map B) (us := (k).map B) (cs' := (xorI (hmKey k) 92 0).map B) rfl rfl rfl (by kernel_rfl) rfl rfl (fun w hw => Ro.rd hk hw) (m := (k).length) lenP (by rw [List.take_of_length_le (by simp)]) oneB ⟨by simp, rfl⟩ (by rw [List.nil_append, ← List.map_append, List.replicate_append_replicate]; congr 2; omega) (by rw [xorI_0 hmKey_len, List.map_append, List.nil_append, hk0]) ?_
    refine s_n ?_; refine tk_seq ?_; refine s_r ?_; refine s_q rfl (y_move rfl) ?_; refine s_n ?_; refine tk_block ?_; refine tk_loop (X := Nat) (fun i => i ≤ 64) (fun i => [(1, v), (4, .pointer (some ⟨b4, 0, none⟩)), (6, .pointer (some ⟨b6, 0, none⟩)), (7, .pointer (some ⟨b7, 0, none⟩)), (23, I ((i : Nat) : Int))]) (fun i => [cel b7 ((xorI (hmKey k) 92 i).map B) 212, cel b6 ((xorI (hmKey k) 54 i).map B) 212, cel b4 ((List.replicate 32 0).map B) 27]) (fun i => 64 - i) (0) (by first | exact trivial | omega | (dsimp only; omega)) (by repeat (first | exact trivial | refine ⟨rfl, ?_⟩)) ((List.Sublist.refl _)) ?_
    rintro i hI
    try dsimp only at hI ⊢
    have hx1 : (xorI (hmKey k) 54 i).length = 64 := xorI_len
    have hx2 : (xorI (hmKey k) 92 i).length = 64 := xorI_len
    refine s_r ?_; refine s_q rfl (y_lss rfl rfl) ?_; refine s_n ?_; refine tk_seq ?_; refine tk_condP rfl (fun ht24 => ?_) (fun ht24 => ?_)
    · skip
      refine tk_skip ?_; refine tk_then ?_; refine tk_seq ?_; refine tk_block ?_; refine s_r ?_; refine s_q rfl (y_move rfl) ?_; refine s_q rfl (y_assign rfl) ?_; refine s_n ?_; refine s_r ?_; refine s_q rfl (y_move rfl) ?_; refine s_q rfl (y_ixA01 64 (i := i) rfl rfl (by kernel_rfl) (by omega)) ?_; refine s_q rfl (y_load rfl rfl (hc (o := i) (.tail _ (.head _)) (gM (d := 0) lenP))) ?_; refine s_q rfl (y_xor8 (a := (xorI (hmKey k) 54 i).getD i 0) (b := 54) rfl rfl) ?_
      refine s_q rfl (y_ixA01 64 (i := i) rfl rfl (by kernel_rfl) (by omega)) ?_; refine tk_act rfl ?_; refine a_storeE (H1 := [_]) (o := i) (v := B (((xorI (hmKey k) 54 i).getD i 0) ^^^ 54)) (cs' := ((xorI (hmKey k) 54 i).set i (((xorI (hmKey k) 54 i).getD i 0) ^^^ 54)).map B) rfl rfl (by kernel_rfl) rfl rfl (by first | (simp; done) | (simp; omega)) (sM) ?_; refine s_n ?_; refine tk_region ?_; refine s_q rfl (y_move rfl) ?_
      refine s_q rfl (y_ixA01 64 (i := i) rfl rfl (by kernel_rfl) (by omega)) ?_; refine s_q rfl (y_load rfl rfl (hc (o := i) (.head _) (gM (d := 0) lenP))) ?_; refine s_q rfl (y_xor8 (a := (xorI (hmKey k) 92 i).getD i 0) (b := 92) rfl rfl) ?_; refine s_q rfl (y_ixA01 64 (i := i) rfl rfl (by kernel_rfl) (by omega)) ?_; refine tk_act rfl ?_; refine a_storeE (H1 := []) (o := i) (v := B (((xorI (hmKey k) 92 i).getD i 0) ^^^ 92)) (cs' := ((xorI (hmKey k) 92 i).set i (((xorI (hmKey k) 92 i).getD i 0) ^^^ 92)).map B) rfl rfl (by kernel_rfl) rfl rfl (by first | (simp; done) | (simp; omega)) (sM) ?_
      refine tk_nil ?_; refine tk_in_normal ?_; refine tk_then ?_; refine tk_region ?_; refine s_q rfl (y_addN (a := i) (b := 1) rfl rfl (by omega)) ?_; refine s_q rfl (y_move rfl) ?_; refine tk_nil ?_; refine tk_H [cel b7 (((xorI (hmKey k) 92 i).set i (((xorI (hmKey k) 92 i).getD i 0) ^^^ 92)).map B) 212, cel b6 ((xorI (hmKey k) 54 (i + 1)).map B) 212, cel b4 ((List.replicate 32 0).map B) 27] (congrArg (fun z_ => [cel b7 (((xorI (hmKey k) 92 i).set i (((xorI (hmKey k) 92 i).getD i 0) ^^^ 92)).map B) 212, cel b6 z_ 212, cel b4 ((List.replicate 32 0).map B) 27]) (show ((xorI (hmKey k) 54 i).set i (((xorI (hmKey k) 54 i).getD i 0) ^^^ 54)).map B = (xorI (hmKey k) 54 (i + 1)).map B from congrArg (List.map B) (xorI_set (by omega)))) ?_
      refine tk_H [cel b7 ((xorI (hmKey k) 92 (i + 1)).map B) 212, cel b6 ((xorI (hmKey k) 54 (i + 1)).map B) 212, cel b4 ((List.replicate 32 0).map B) 27] (congrArg (fun z_ => [cel b7 z_ 212, cel b6 ((xorI (hmKey k) 54 (i + 1)).map B) 212, cel b4 ((List.replicate 32 0).map B) 27]) (show ((xorI (hmKey k) 92 i).set i (((xorI (hmKey k) 92 i).getD i 0) ^^^ 92)).map B = (xorI (hmKey k) 92 (i + 1)).map B from congrArg (List.map B) (xorI_set (by omega)))) ?_
      exact tk_again (i + 1) (by first | exact trivial | omega | (dsimp only; omega)) (by first | omega | (dsimp only; omega)) (by repeat (first | exact trivial | refine ⟨rfl, ?_⟩)) (List.Sublist.refl _)
    · skip
      refine tk_H [cel b7 ((xorI (hmKey k) 92 i).map B) 212, cel b6 ((xorPad (hmKey k) 54).map B) 212, cel b4 ((List.replicate 32 0).map B) 27] (congrArg (fun z_ => [cel b7 ((xorI (hmKey k) 92 i).map B) 212, cel b6 z_ 212, cel b4 ((List.replicate 32 0).map B) 27]) (show (xorI (hmKey k) 54 i).map B = (xorPad (hmKey k) 54).map B from by rw [show i = 64 by omega, xorI_64])) ?_; refine tk_H [cel b7 ((xorPad (hmKey k) 92).map B) 212, cel b6 ((xorPad (hmKey k) 54).map B) 212, cel b4 ((List.replicate 32 0).map B) 27] (congrArg (fun z_ => [cel b7 z_ 212, cel b6 ((xorPad (hmKey k) 54).map B) 212, cel b4 ((List.replicate 32 0).map B) 27]) (show (xorI (hmKey k) 92 i).map B = (xorPad (hmKey k) 92).map B from by rw [show i = 64 by omega, xorI_64])) ?_
      refine tk_exit ?_; refine tk_then_exit ?_; refine tk_then_exit ?_; refine tk_in_hit ?_; refine tk_then ?_; refine s_r ?_; refine s_q rfl (y_cutA (m := 64) (sz := 1) rfl (by kernel_rfl)) ?_; refine tk_act rfl ?_; refine a_slitN (vs := [.slice (some ⟨b6, 0, none⟩) 64 64]) rfl (List.forall_mem_cons.2 ⟨rfl, (fun _ h => nomatch h)⟩) (EL206) rfl rfl (by decide) fun b38 => ?_; refine s_q rfl (y_move rfl) ?_
      refine tk_celOwn (H1 := []) (e := 42) (n := 1) rfl (by simp) (by simp [maxLen]) ?_; refine tk_act rfl ?_; refine a_appendR (H1 := []) (n := 1) (xs := [.slice (some ⟨b6, 0, none⟩) 64 64]) (news := ps.map Prod.fst) rfl rfl EL206 rfl rfl (fun w hw => Ro.rd hv hw) (by intro u hu; obtain ⟨p, hp1, rfl⟩ := List.mem_map.1 hu; exact (hp p hp1).1.one) lenP fun v40 => ?_; refine tk_act rfl ?_; refine a_callv [] _ rfl (by kernel_rfl) rfl (fun w' hw' => of_spec (ps := (.slice (some ⟨b6, 0, none⟩) 64 64, xorPad (hmKey k) 54) :: ps) (L := xorPad (hmKey k) 54 ++ L) (Ro.own (H0 := []) (n := 1 + (ps.map Prod.fst).length) hw' (.head _)) (List.forall_mem_cons.2 ⟨(Ro.cel (H0 := []) (b := b6) (o := 0) (m := 64) (cp := 64) (vs := (xorPad (hmKey k) 54).map B) hw' (.tail _ (.tail _ (.head _))) (dsW) (by first | rfl | exact lenP | (simp; omega)) lenP), fun p hp0 => (hp p hp0).call hw'⟩) (by simp [hL]) lenP (by simp; omega) (hg.call hw')) rfl fun _ _ => ?_
      refine tk_act rfl ?_; refine a_allocL (cs := (List.replicate 32 0).map B) (by kernel_rfl) rfl fun b9 => ?_; refine tk_act rfl ?_; refine a_storeW (H1 := []) (vs := (sumL (xorPad (hmKey k) 54 ++ L)).map B) 32 rfl rfl (by kernel_rfl) rfl ⟨lenP, lenP⟩ oneB ?_; refine s_n ?_; refine tk_seq ?_; refine tk_drawH [cel b9 ((sumL (xorPad (hmKey k) 54 ++ L)).map B) 27, own v40 (1 + (ps.map Prod.fst).length) ([.slice (some ⟨b6, 0, none⟩) 64 64] ++ ps.map Prod.fst) 42 1, cel b7 ((xorPad (hmKey k) 92).map B) 212, cel b6 ((xorPad (hmKey k) 54).map B) 212] [] (by kernel_rfl) ?_
      refine s_x 0 rfl (y_cutA (m := 64) (sz := 1) rfl (by kernel_rfl)) ?_; refine s_x 1 rfl (y_cutA (m := 32) (sz := 1) rfl (by kernel_rfl)) ?_; refine tx_a 2 rfl (by kernel_rfl) rfl ?_; refine a_slitN (vs := [.slice (some ⟨b7, 0, none⟩) 64 64, .slice (some ⟨b9, 0, none⟩) 32 32]) rfl (List.forall_mem_cons.2 ⟨rfl, (List.forall_mem_cons.2 ⟨rfl, (fun _ h => nomatch h)⟩)⟩) (EL206) rfl rfl (by decide) fun b44 => ?_
      refine tk_S (fun _ h => h.sub (.cons _ (.cons_cons _ (.cons_cons _ (.cons_cons _ (.cons_cons _ (List.nil_sublist _))))))) ?_; refine tx_more [cel b44 ([Value.slice (some ⟨b7, 0, none⟩) 64 64, .slice (some ⟨b9, 0, none⟩) 32 32]) 42, cel b9 ((sumL (xorPad (hmKey k) 54 ++ L)).map B) 27, own v40 (1 + (ps.map Prod.fst).length) ([.slice (some ⟨b6, 0, none⟩) 64 64] ++ ps.map Prod.fst) 42 1, cel b7 ((xorPad (hmKey k) 92).map B) 212, cel b6 ((xorPad (hmKey k) 54).map B) 212] (fun _ h => h.sub (.cons _ (List.Sublist.refl _))) (fun _ h => h.sub (.cons_cons _ (.cons_cons _ (.cons_cons _ (.cons_cons _ (.cons_cons _ (List.nil_sublist _))))))) ?_
      refine tx_a 3 rfl (by kernel_rfl) rfl ?_; refine a_callv [] _ rfl (by kernel_rfl) rfl (fun w' hw' => of_spec (ps := [(.slice (some ⟨b7, 0, none⟩) 64 64, xorPad (hmKey k) 92), (.slice (some ⟨b9, 0, none⟩) 32 32, sumL (xorPad (hmKey k) 54 ++ L))]) (L := (xorPad (hmKey k) 92) ++ (sumL (xorPad (hmKey k) 54 ++ L))) (Ro.cel (vs := [.slice (some ⟨b7, 0, none⟩) 64 64, .slice (some ⟨b9, 0, none⟩) 32 32]) hw' (.head _) (by first | rfl | simp) rfl (by decide)) (List.forall_mem_cons.2 ⟨(Ro.cel (H0 := []) (b := b7) (o := 0) (m := 64) (cp := 64) (vs := (xorPad (hmKey k) 92).map B) hw' (.tail _ (.tail _ (.tail _ (.head _)))) (dsW) (by first | rfl | exact lenP | (simp; omega)) lenP), (List.forall_mem_cons.2 ⟨(Ro.cel (H0 := []) (b := b9) (o := 0) (m := 32) (cp := 32) (vs := (sumL (xorPad (hmKey k) 54 ++ L)).map B) hw' (.tail _ (.head _)) (dsW) (by first | rfl | exact lenP | (simp; omega)) lenP), (fun _ h => nomatch h)⟩)⟩) (by simp) lenP lenP (hg.call hw')) rfl fun _ _ => ?_
      refine tk_S (fun _ h => h.sub (.cons_cons _ (.cons_cons _ (.cons_cons _ (.cons_cons _ (.cons_cons _ (List.nil_sublist _))))))) ?_; refine tk_re 45 (.agg ((sumL ((xorPad (hmKey k) 92) ++ (sumL (xorPad (hmKey k) 54 ++ L)))).map B).toArray) (.agg ((keyedL k L).map B).toArray) rfl (by simp only [keyedL]) ?_; refine tx_a 4 rfl (by kernel_rfl) rfl ?_; refine a_storeW (H1 := [_, _, _, _, _]) (vs := (keyedL k L).map B) 32 rfl rfl (by kernel_rfl) rfl ⟨lenP, lenP⟩ oneB ?_
      refine tk_S (fun _ h => h.sub (.cons_cons _ (.cons_cons _ (.cons_cons _ (.cons_cons _ (.cons_cons _ (List.nil_sublist _))))))) ?_; refine tx_done (by kernel_rfl) ?_; refine tk_then ?_; refine tk_retc ?_
      exact tk_ret (()) (trivial) (.inl rfl) (rc (vs := (keyedL k L).map B) rfl rfl (by simp; kernel_rfl) (hcw (.tail _ (.tail _ (.tail _ (.tail _ (.tail _ (.head _)))))))) (List.nil_sublist _)
end Go.Proofs.YtkkjfojgjmglpaaGreatDoor
set_option linter.unusedSimpArgs false
set_option linter.unusedVariables false
namespace Go.Proofs.YtkkjfojgjmglpaaGreatDoor
open Go Go.RowKit
set_option maxRecDepth 100000
attribute [local irreducible] sched schedZ rounds rr addI blockF word
theorem right_spec (a : UInt32) (n : Nat) {w : World} (h : 1 ≤ n ∧ n ≤ 31) : Spec Tryz.prog 159 [W4 a, I (n : Int)] w [] (fun _ : Unit => True) (fun _ => W4 (rr a n)) (fun _ => []) := by
  refine spec_of (n := 13) Tryz.func159 rfl rfl trivial trivial rfl ?_; refine s_r ?_; refine s_q rfl (y_assign rfl) ?_; refine s_n ?_; refine tk_seq ?_; refine tk_drawH [] [] (by kernel_rfl) ?_; refine s_x 0 rfl (y_move rfl) ?_; refine s_x 1 rfl (y_move rfl) ?_; refine s_x 2 rfl (y_shrW (a := a) (m := n) rfl rfl (by omega)) ?_; refine s_x 3 rfl (y_move rfl) ?_; refine s_x 4 rfl (y_move rfl) ?_; refine s_x 5 rfl (y_subN (a := 32) (b := n) rfl rfl (by omega)) ?_
  refine s_x 6 rfl (y_shlW (a := a) (m := 32 - n) rfl rfl (by omega)) ?_; refine s_x 7 rfl ((y_orW (a := a >>> UInt32.ofNat n) (b := a <<< UInt32.ofNat (32 - n)) rfl rfl).cast (v := _) (u := W4 (rr a n)) (congrArg W4 (rr_def' a n))) ?_; refine s_x 8 rfl (y_assign rfl) ?_; refine tx_done (by kernel_rfl) ?_; refine tk_then ?_; refine tk_retc ?_
  exact tk_ret (()) (trivial) (.inl rfl) (r1 rfl rfl) (List.Sublist.refl _)
theorem words_spec {w : World} : Spec Tryz.prog 158 [] w [] (fun _ : Nat => True) (fun b => .slice (some ⟨b, 0, none⟩) 64 64) (fun b => [cel b (stepsL.map W4) 210]) := by
  refine spec_of (n := 2) Tryz.func158 rfl rfl trivial trivial rfl ?_; refine s_r ?_; refine s_q rfl (y_assign rfl) ?_; refine s_n ?_; refine s_r ?_; refine tk_act rfl ?_; refine a_slitN (vs := stepsL.map W4) rfl oneW EL225 rfl rfl (by decide) fun b1 => ?_; refine s_q rfl (y_assign rfl) ?_; refine s_n ?_; refine tk_retc ?_
  exact tk_ret (b1) (trivial) (.inl rfl) (r1 rfl rfl) (List.Sublist.refl _)
theorem fold_spec {rv bv : Value} {R : List UInt32} {blk : List UInt8} {w : World} (hr : Ro (Fs []) w (rd rv (R.map W4))) (hbk : Ro (Fs []) w (rdB bv blk)) (hR8 : R.length = 8) (hb : blk.length = 64) :
    Spec Tryz.prog 112 [rv, bv] w [] (fun _ : Value => True) (fun v => v) (fun v => [ownM W4 v (blockF R blk) 210]) := by
  refine spec_of (n := 257) Tryz.func112 rfl rfl trivial trivial rfl ?_
  have h8 := stepsL_len
  refine s_r ?_; refine s_q rfl (y_assign rfl) ?_; refine s_n ?_; refine s_r ?_; refine tk_act rfl ?_; refine a_callv [] _ rfl (by kernel_rfl) rfl (fun w' hw' => words_spec) rfl fun b18 _ => ?_; refine s_q rfl (y_assign rfl) ?_; refine s_n ?_; refine s_r ?_; refine tk_act rfl ?_; refine a_makeM (f := W4) (z := 0) (m := 64) rfl rfl MK225 rfl rfl ⟨lenP, lenP⟩ fun b19 => ?_; refine s_q rfl (y_assign rfl) ?_
  refine s_n ?_; refine tk_seq ?_; refine s_r ?_; refine s_q rfl (y_assign rfl) ?_; refine s_n ?_; refine tk_block ?_; refine tk_H [cel b19 ((schedZ blk 0).map W4) 210, cel b18 (stepsL.map W4) 210] (congrArg (fun z_ => [cel b19 z_ 210, cel b18 (stepsL.map W4) 210]) (show (List.replicate 64 0).map W4 = (schedZ blk 0).map W4 from by rw [schedZ_0])) ?_; refine tk_loop (X := Nat) (fun i => i ≤ 64) (fun i => [(0, rv), (1, bv), (4, .slice none 0 0), (5, .slice (some ⟨b18, 0, none⟩) 64 64), (6, .slice (some ⟨b19, 0, none⟩) 64 64), (7, I ((i : Nat) : Int))]) (fun i => [cel b19 ((schedZ blk i).map W4) 210, cel b18 (stepsL.map W4) 210]) (fun i => 64 - i) (0) (by first | exact trivial | omega | (dsimp only; omega)) (by repeat (first | exact trivial | refine ⟨rfl, ?_⟩)) ((List.Sublist.refl _)) ?_
  rintro i hI
  try dsimp only at hI ⊢
  have hz : (schedZ blk i).length = 64 := schedZ_len (by omega)
  refine tk_seq ?_; refine s_r ?_; refine s_q rfl (y_move rfl) ?_; refine s_q rfl (y_lss rfl rfl) ?_; refine s_n ?_; refine tk_condP rfl (fun ht21 => ?_) (fun ht21 => ?_)
  · skip
    refine tk_skip ?_; refine tk_then ?_; refine tk_seq ?_; refine tk_block ?_; refine s_r ?_; refine s_q rfl (y_move rfl) ?_; refine s_q rfl (y_lss rfl rfl) ?_; refine s_n ?_; refine tk_condP rfl (fun ht25 => ?_) (fun ht25 => ?_)
    · skip
      refine tk_drawH [cel b18 (stepsL.map W4) 210] [] (by kernel_rfl) ?_; refine s_x 0 rfl (y_move rfl) ?_; refine s_x 1 rfl (y_move rfl) ?_; refine s_x 2 rfl (y_move rfl) ?_; refine s_x 3 rfl (y_move rfl) ?_; refine s_x 4 rfl (y_mulN (a := 4) (b := i) rfl rfl (by omega)) ?_; refine s_x 5 rfl (y_ixR (j := 4 * i) rfl rfl hbk.1 lenP (by kernel_rfl)) ?_; refine s_l 6 rfl (fun _ h => h.sub (.cons _ (List.Sublist.refl _))) (y_load rfl rfl (fun w hw => ((fun w hw => Ro.rd hbk hw) w hw).cell (gM (d := 0) lenP))) ?_
      refine s_x 7 rfl (y_conv8W (a := blk.getD (4 * i) 0) rfl rfl rfl) ?_; refine s_x 8 rfl (y_shlW (a := (blk.getD (4 * i) 0).toUInt32) (m := 24) rfl rfl (by decide)) ?_; refine s_x 9 rfl (y_move rfl) ?_; refine s_x 10 rfl (y_move rfl) ?_; refine s_x 11 rfl (y_mulN (a := 4) (b := i) rfl rfl (by omega)) ?_; refine s_x 12 rfl (y_addN (a := 4 * i) (b := 1) rfl rfl (by omega)) ?_; refine s_x 13 rfl (y_ixR (j := (4 * i) + 1) rfl rfl hbk.1 lenP (by kernel_rfl)) ?_
      refine s_l 14 rfl (fun _ h => h.sub (.cons _ (List.Sublist.refl _))) (y_load rfl rfl (fun w hw => ((fun w hw => Ro.rd hbk hw) w hw).cell (gM (d := 0) lenP))) ?_; refine s_x 15 rfl (y_conv8W (a := blk.getD ((4 * i) + 1) 0) rfl rfl rfl) ?_; refine s_x 16 rfl (y_shlW (a := (blk.getD ((4 * i) + 1) 0).toUInt32) (m := 16) rfl rfl (by decide)) ?_; refine s_x 17 rfl (y_addW (a := ((blk.getD (4 * i) 0).toUInt32) <<< UInt32.ofNat 24) (b := ((blk.getD ((4 * i) + 1) 0).toUInt32) <<< UInt32.ofNat 16) rfl rfl) ?_
      refine s_x 18 rfl (y_move rfl) ?_; refine s_x 19 rfl (y_move rfl) ?_; refine s_x 20 rfl (y_mulN (a := 4) (b := i) rfl rfl (by omega)) ?_; refine s_x 21 rfl (y_addN (a := 4 * i) (b := 2) rfl rfl (by omega)) ?_; refine s_x 22 rfl (y_ixR (j := (4 * i) + 2) rfl rfl hbk.1 lenP (by kernel_rfl)) ?_; refine s_l 23 rfl (fun _ h => h.sub (.cons _ (List.Sublist.refl _))) (y_load rfl rfl (fun w hw => ((fun w hw => Ro.rd hbk hw) w hw).cell (gM (d := 0) lenP))) ?_
      refine s_x 24 rfl (y_conv8W (a := blk.getD ((4 * i) + 2) 0) rfl rfl rfl) ?_; refine s_x 25 rfl (y_shlW (a := (blk.getD ((4 * i) + 2) 0).toUInt32) (m := 8) rfl rfl (by decide)) ?_; refine s_x 26 rfl (y_addW (a := (((blk.getD (4 * i) 0).toUInt32) <<< UInt32.ofNat 24) + (((blk.getD ((4 * i) + 1) 0).toUInt32) <<< UInt32.ofNat 16)) (b := ((blk.getD ((4 * i) + 2) 0).toUInt32) <<< UInt32.ofNat 8) rfl rfl) ?_
      refine s_x 27 rfl (y_move rfl) ?_; refine s_x 28 rfl (y_move rfl) ?_; refine s_x 29 rfl (y_mulN (a := 4) (b := i) rfl rfl (by omega)) ?_; refine s_x 30 rfl (y_addN (a := 4 * i) (b := 3) rfl rfl (by omega)) ?_; refine s_x 31 rfl (y_ixR (j := (4 * i) + 3) rfl rfl hbk.1 lenP (by kernel_rfl)) ?_; refine s_l 32 rfl (fun _ h => h.sub (.cons _ (List.Sublist.refl _))) (y_load rfl rfl (fun w hw => ((fun w hw => Ro.rd hbk hw) w hw).cell (gM (d := 0) lenP))) ?_
      refine s_x 33 rfl (y_conv8W (a := blk.getD ((4 * i) + 3) 0) rfl rfl rfl) ?_; refine s_x 34 rfl (y_addW (a := ((((blk.getD (4 * i) 0).toUInt32) <<< UInt32.ofNat 24) + (((blk.getD ((4 * i) + 1) 0).toUInt32) <<< UInt32.ofNat 16)) + (((blk.getD ((4 * i) + 2) 0).toUInt32) <<< UInt32.ofNat 8)) (b := (blk.getD ((4 * i) + 3) 0).toUInt32) rfl rfl) ?_; refine s_x 35 rfl (y_ixS01 (i := i) rfl rfl (by kernel_rfl) (by omega)) ?_
      refine tx_a 36 rfl (by kernel_rfl) rfl ?_; refine a_storeE (H1 := []) (o := i) (v := W4 ((((((blk.getD (4 * i) 0).toUInt32) <<< UInt32.ofNat 24) + (((blk.getD ((4 * i) + 1) 0).toUInt32) <<< UInt32.ofNat 16)) + (((blk.getD ((4 * i) + 2) 0).toUInt32) <<< UInt32.ofNat 8)) + ((blk.getD ((4 * i) + 3) 0).toUInt32))) (cs' := ((schedZ blk i).set i ((((((blk.getD (4 * i) 0).toUInt32) <<< UInt32.ofNat 24) + (((blk.getD ((4 * i) + 1) 0).toUInt32) <<< UInt32.ofNat 16)) + (((blk.getD ((4 * i) + 2) 0).toUInt32) <<< UInt32.ofNat 8)) + ((blk.getD ((4 * i) + 3) 0).toUInt32))).map W4) rfl rfl (by kernel_rfl) rfl rfl (by first | (simp; done) | (simp; omega)) (sM) ?_
      refine tk_S (fun _ h => h.sub (.cons _ (List.Sublist.refl _))) ?_; refine tx_done (by kernel_rfl) ?_; refine tk_in_normal ?_; refine tk_then ?_; refine tk_region ?_; refine s_q rfl (y_move rfl) ?_; refine s_q rfl (y_addN (a := i) (b := 1) rfl rfl (by omega)) ?_; refine s_q rfl (y_assign rfl) ?_; refine tk_nil ?_; refine tk_H [cel b19 ((schedZ blk (i + 1)).map W4) 210, cel b18 (stepsL.map W4) 210] (congrArg (fun z_ => [cel b19 z_ 210, cel b18 (stepsL.map W4) 210]) (show ((schedZ blk i).set i ((((((blk.getD (4 * i) 0).toUInt32) <<< UInt32.ofNat 24) + (((blk.getD ((4 * i) + 1) 0).toUInt32) <<< UInt32.ofNat 16)) + (((blk.getD ((4 * i) + 2) 0).toUInt32) <<< UInt32.ofNat 8)) + ((blk.getD ((4 * i) + 3) 0).toUInt32))).map W4 = (schedZ blk (i + 1)).map W4 from congrArg (List.map W4) ((congrArg ((schedZ blk i).set i) (word_add blk i).symm).trans (schedZ_lo (by omega) (by omega))))) ?_
      exact tk_again (i + 1) (by first | exact trivial | omega | (dsimp only; omega)) (by first | omega | (dsimp only; omega)) (by repeat (first | exact trivial | refine ⟨rfl, ?_⟩)) (List.Sublist.refl _)
    · skip
      refine tk_seq ?_; refine tk_drawH [cel b19 ((schedZ blk i).map W4) 210, cel b18 (stepsL.map W4) 210] [] (by kernel_rfl) ?_; refine s_x 0 rfl (y_move rfl) ?_; refine s_x 1 rfl (y_move rfl) ?_; refine s_x 2 rfl (y_subN (a := i) (b := 15) rfl rfl (by omega)) ?_; refine s_x 3 rfl (y_ixS01 (i := i - 15) rfl rfl (by kernel_rfl) (by omega)) ?_; refine s_l 4 rfl (fun _ h => h.sub (List.Sublist.refl _)) (y_load rfl rfl (hc (o := i - 15) (.head _) (gM (d := 0) lenP))) ?_
      refine s_x 6 rfl (y_move rfl) ?_; refine s_x 7 rfl (y_move rfl) ?_; refine s_x 8 rfl (y_subN (a := i) (b := 15) rfl rfl (by omega)) ?_; refine s_x 9 rfl (y_ixS01 (i := i - 15) rfl rfl (by kernel_rfl) (by omega)) ?_; refine s_l 10 rfl (fun _ h => h.sub (List.Sublist.refl _)) (y_load rfl rfl (hc (o := i - 15) (.head _) (gM (d := 0) lenP))) ?_; refine s_x 13 rfl (y_move rfl) ?_; refine s_x 14 rfl (y_move rfl) ?_
      refine s_x 15 rfl (y_subN (a := i) (b := 15) rfl rfl (by omega)) ?_; refine s_x 16 rfl (y_ixS01 (i := i - 15) rfl rfl (by kernel_rfl) (by omega)) ?_; refine s_l 17 rfl (fun _ h => h.sub (List.Sublist.refl _)) (y_load rfl rfl (hc (o := i - 15) (.head _) (gM (d := 0) lenP))) ?_; refine s_x 18 rfl (y_shrW (a := (schedZ blk i).getD (i - 15) 0) (m := 3) rfl rfl (by decide)) ?_; refine tx_a 5 rfl (by kernel_rfl) rfl ?_; refine a_callv [] _ rfl (by kernel_rfl) rfl (fun w' hw' => right_spec ((schedZ blk i).getD (i - 15) 0) 7 (by decide)) rfl fun _ _ => ?_
      refine tk_S (fun _ h => h.sub (List.Sublist.refl _)) ?_; refine tx_a 11 rfl (by kernel_rfl) rfl ?_; refine a_callv [] _ rfl (by kernel_rfl) rfl (fun w' hw' => right_spec ((schedZ blk i).getD (i - 15) 0) 18 (by decide)) rfl fun _ _ => ?_; refine tk_S (fun _ h => h.sub (List.Sublist.refl _)) ?_; refine s_x 12 rfl (y_xorW (a := rr ((schedZ blk i).getD (i - 15) 0) 7) (b := rr ((schedZ blk i).getD (i - 15) 0) 18) rfl rfl) ?_
      refine s_x 19 rfl (y_xorW (a := (rr ((schedZ blk i).getD (i - 15) 0) 7) ^^^ (rr ((schedZ blk i).getD (i - 15) 0) 18)) (b := ((schedZ blk i).getD (i - 15) 0) >>> UInt32.ofNat 3) rfl rfl) ?_; refine s_x 20 rfl (y_assign rfl) ?_; refine tx_done (by kernel_rfl) ?_; refine tk_then ?_; refine tk_seq ?_; refine tk_drawH [cel b19 ((schedZ blk i).map W4) 210, cel b18 (stepsL.map W4) 210] [] (by kernel_rfl) ?_
      refine s_x 0 rfl (y_move rfl) ?_; refine s_x 1 rfl (y_move rfl) ?_; refine s_x 2 rfl (y_subN (a := i) (b := 2) rfl rfl (by omega)) ?_; refine s_x 3 rfl (y_ixS01 (i := i - 2) rfl rfl (by kernel_rfl) (by omega)) ?_; refine s_l 4 rfl (fun _ h => h.sub (List.Sublist.refl _)) (y_load rfl rfl (hc (o := i - 2) (.head _) (gM (d := 0) lenP))) ?_; refine s_x 6 rfl (y_move rfl) ?_; refine s_x 7 rfl (y_move rfl) ?_
      refine s_x 8 rfl (y_subN (a := i) (b := 2) rfl rfl (by omega)) ?_; refine s_x 9 rfl (y_ixS01 (i := i - 2) rfl rfl (by kernel_rfl) (by omega)) ?_; refine s_l 10 rfl (fun _ h => h.sub (List.Sublist.refl _)) (y_load rfl rfl (hc (o := i - 2) (.head _) (gM (d := 0) lenP))) ?_; refine s_x 13 rfl (y_move rfl) ?_; refine s_x 14 rfl (y_move rfl) ?_; refine s_x 15 rfl (y_subN (a := i) (b := 2) rfl rfl (by omega)) ?_
      refine s_x 16 rfl (y_ixS01 (i := i - 2) rfl rfl (by kernel_rfl) (by omega)) ?_; refine s_l 17 rfl (fun _ h => h.sub (List.Sublist.refl _)) (y_load rfl rfl (hc (o := i - 2) (.head _) (gM (d := 0) lenP))) ?_; refine s_x 18 rfl (y_shrW (a := (schedZ blk i).getD (i - 2) 0) (m := 10) rfl rfl (by decide)) ?_; refine tx_a 5 rfl (by kernel_rfl) rfl ?_; refine a_callv [] _ rfl (by kernel_rfl) rfl (fun w' hw' => right_spec ((schedZ blk i).getD (i - 2) 0) 17 (by decide)) rfl fun _ _ => ?_
      refine tk_S (fun _ h => h.sub (List.Sublist.refl _)) ?_; refine tx_a 11 rfl (by kernel_rfl) rfl ?_; refine a_callv [] _ rfl (by kernel_rfl) rfl (fun w' hw' => right_spec ((schedZ blk i).getD (i - 2) 0) 19 (by decide)) rfl fun _ _ => ?_; refine tk_S (fun _ h => h.sub (List.Sublist.refl _)) ?_; refine s_x 12 rfl (y_xorW (a := rr ((schedZ blk i).getD (i - 2) 0) 17) (b := rr ((schedZ blk i).getD (i - 2) 0) 19) rfl rfl) ?_
      refine s_x 19 rfl (y_xorW (a := (rr ((schedZ blk i).getD (i - 2) 0) 17) ^^^ (rr ((schedZ blk i).getD (i - 2) 0) 19)) (b := ((schedZ blk i).getD (i - 2) 0) >>> UInt32.ofNat 10) rfl rfl) ?_; refine s_x 20 rfl (y_assign rfl) ?_; refine tx_done (by kernel_rfl) ?_; refine tk_then ?_; refine tk_drawH [cel b19 ((schedZ blk i).map W4) 210, cel b18 (stepsL.map W4) 210] [18] (by kernel_rfl) ?_; refine s_x 0 rfl (y_move rfl) ?_
      refine s_x 1 rfl (y_move rfl) ?_; refine s_x 2 rfl (y_move rfl) ?_; refine s_x 3 rfl (y_move rfl) ?_; refine s_x 4 rfl (y_subN (a := i) (b := 16) rfl rfl (by omega)) ?_; refine s_x 5 rfl (y_ixS01 (i := i - 16) rfl rfl (by kernel_rfl) (by omega)) ?_; refine s_l 6 rfl (fun _ h => h.sub (List.Sublist.refl _)) (y_load rfl rfl (hc (o := i - 16) (.head _) (gM (d := 0) lenP))) ?_; refine s_x 7 rfl (y_move rfl) ?_
      refine s_x 8 rfl (y_addW (a := (schedZ blk i).getD (i - 16) 0) (b := ((rr ((schedZ blk i).getD (i - 15) 0) 7) ^^^ (rr ((schedZ blk i).getD (i - 15) 0) 18)) ^^^ (((schedZ blk i).getD (i - 15) 0) >>> UInt32.ofNat 3)) rfl rfl) ?_; refine s_x 9 rfl (y_move rfl) ?_; refine s_x 10 rfl (y_move rfl) ?_; refine s_x 11 rfl (y_subN (a := i) (b := 7) rfl rfl (by omega)) ?_; refine s_x 12 rfl (y_ixS01 (i := i - 7) rfl rfl (by kernel_rfl) (by omega)) ?_
      refine s_l 13 rfl (fun _ h => h.sub (List.Sublist.refl _)) (y_load rfl rfl (hc (o := i - 7) (.head _) (gM (d := 0) lenP))) ?_; refine s_x 14 rfl (y_addW (a := ((schedZ blk i).getD (i - 16) 0) + (((rr ((schedZ blk i).getD (i - 15) 0) 7) ^^^ (rr ((schedZ blk i).getD (i - 15) 0) 18)) ^^^ (((schedZ blk i).getD (i - 15) 0) >>> UInt32.ofNat 3))) (b := (schedZ blk i).getD (i - 7) 0) rfl rfl) ?_; refine s_x 15 rfl (y_move rfl) ?_
      refine s_x 16 rfl (y_addW (a := (((schedZ blk i).getD (i - 16) 0) + (((rr ((schedZ blk i).getD (i - 15) 0) 7) ^^^ (rr ((schedZ blk i).getD (i - 15) 0) 18)) ^^^ (((schedZ blk i).getD (i - 15) 0) >>> UInt32.ofNat 3))) + ((schedZ blk i).getD (i - 7) 0)) (b := ((rr ((schedZ blk i).getD (i - 2) 0) 17) ^^^ (rr ((schedZ blk i).getD (i - 2) 0) 19)) ^^^ (((schedZ blk i).getD (i - 2) 0) >>> UInt32.ofNat 10)) rfl rfl) ?_
      refine s_x 17 rfl (y_ixS01 (i := i) rfl rfl (by kernel_rfl) (by omega)) ?_; refine tx_x 18 rfl (by kernel_rfl) rfl rfl ?_; refine a_storeE (H1 := []) (o := i) (v := W4 (((((schedZ blk i).getD (i - 16) 0) + (((rr ((schedZ blk i).getD (i - 15) 0) 7) ^^^ (rr ((schedZ blk i).getD (i - 15) 0) 18)) ^^^ (((schedZ blk i).getD (i - 15) 0) >>> UInt32.ofNat 3))) + ((schedZ blk i).getD (i - 7) 0)) + (((rr ((schedZ blk i).getD (i - 2) 0) 17) ^^^ (rr ((schedZ blk i).getD (i - 2) 0) 19)) ^^^ (((schedZ blk i).getD (i - 2) 0) >>> UInt32.ofNat 10)))) (cs' := ((schedZ blk i).set i (((((schedZ blk i).getD (i - 16) 0) + (((rr ((schedZ blk i).getD (i - 15) 0) 7) ^^^ (rr ((schedZ blk i).getD (i - 15) 0) 18)) ^^^ (((schedZ blk i).getD (i - 15) 0) >>> UInt32.ofNat 3))) + ((schedZ blk i).getD (i - 7) 0)) + (((rr ((schedZ blk i).getD (i - 2) 0) 17) ^^^ (rr ((schedZ blk i).getD (i - 2) 0) 19)) ^^^ (((schedZ blk i).getD (i - 2) 0) >>> UInt32.ofNat 10)))).map W4) rfl rfl (by kernel_rfl) rfl rfl (by first | (simp; done) | (simp; omega)) (sM) ?_
      refine tx_done (by kernel_rfl) ?_; refine tk_in_normal ?_; refine tk_then ?_; refine tk_region ?_; refine s_q rfl (y_move rfl) ?_; refine s_q rfl (y_addN (a := i) (b := 1) rfl rfl (by omega)) ?_; refine s_q rfl (y_assign rfl) ?_; refine tk_nil ?_; refine tk_H [cel b19 ((schedZ blk (i + 1)).map W4) 210, cel b18 (stepsL.map W4) 210] (congrArg (fun z_ => [cel b19 z_ 210, cel b18 (stepsL.map W4) 210]) (show ((schedZ blk i).set i (((((schedZ blk i).getD (i - 16) 0) + (((rr ((schedZ blk i).getD (i - 15) 0) 7) ^^^ (rr ((schedZ blk i).getD (i - 15) 0) 18)) ^^^ (((schedZ blk i).getD (i - 15) 0) >>> UInt32.ofNat 3))) + ((schedZ blk i).getD (i - 7) 0)) + (((rr ((schedZ blk i).getD (i - 2) 0) 17) ^^^ (rr ((schedZ blk i).getD (i - 2) 0) 19)) ^^^ (((schedZ blk i).getD (i - 2) 0) >>> UInt32.ofNat 10)))).map W4 = (schedZ blk (i + 1)).map W4 from congrArg (List.map W4) (schedZ_hi' (by omega) (by omega)))) ?_
      exact tk_again (i + 1) (by first | exact trivial | omega | (dsimp only; omega)) (by first | omega | (dsimp only; omega)) (by repeat (first | exact trivial | refine ⟨rfl, ?_⟩)) (List.Sublist.refl _)
  · skip
    refine tk_H [cel b19 ((sched blk 64).map W4) 210, cel b18 (stepsL.map W4) 210] (congrArg (fun z_ => [cel b19 z_ 210, cel b18 (stepsL.map W4) 210]) (show (schedZ blk i).map W4 = (sched blk 64).map W4 from by rw [show i = 64 by omega, schedZ_64])) ?_; refine tk_exit ?_; refine tk_then_exit ?_; refine tk_then_exit ?_; refine tk_in_hit ?_; refine tk_then ?_; refine s_r ?_; refine tk_act rfl ?_; refine a_slit0 EL225 rfl fun v120 => ?_
    refine s_q rfl (y_move rfl) ?_; refine tk_act rfl ?_; refine a_appM (H1 := []) (f := W4) (l := []) (m := R) rfl rfl EL225 rfl rfl (fun w hw => Ro.rd hr hw) (fun _ => rfl) ⟨lenP, lenP⟩ fun v122 => ?_; refine tk_own1 (.head _) fun hfv122 => ?_; refine s_q rfl (y_assign rfl) ?_; refine s_n ?_; refine tk_seq ?_; refine s_r ?_; refine s_q rfl (y_assign rfl) ?_; refine s_n ?_; refine tk_block ?_; refine tk_H [own v122 ((rounds R stepsL (sched blk 64) 0).length) ((rounds R stepsL (sched blk 64) 0).map W4) 210 1, cel b19 ((sched blk 64).map W4) 210, cel b18 (stepsL.map W4) 210] (congrArg (fun z_ => [z_, cel b19 ((sched blk 64).map W4) 210, cel b18 (stepsL.map W4) 210]) (show own v122 R.length (R.map W4) 210 1 = own v122 ((rounds R stepsL (sched blk 64) 0).length) ((rounds R stepsL (sched blk 64) 0).map W4) 210 1 from ownM_cast rounds_0.symm)) ?_
    refine tk_loop (X := Nat × Value) (fun (i, vv) => i ≤ 64) (fun (i, vv) => [(0, rv), (4, .slice none 0 0), (5, .slice (some ⟨b18, 0, none⟩) 64 64), (6, .slice (some ⟨b19, 0, none⟩) 64 64), (10, vv), (11, I ((i : Nat) : Int))]) (fun (i, vv) => [own vv ((rounds R stepsL (sched blk 64) i).length) ((rounds R stepsL (sched blk 64) i).map W4) 210 1, cel b19 ((sched blk 64).map W4) 210, cel b18 (stepsL.map W4) 210]) (fun (i, vv) => 64 - i) ((0, v122)) (by first | exact trivial | omega | (dsimp only; omega)) (by repeat (first | exact trivial | refine ⟨rfl, ?_⟩)) ((List.Sublist.refl _)) ?_
    rintro ⟨i, vv⟩ hI
    try dsimp only at hI ⊢
    have hR : (rounds R stepsL (sched blk 64) i).length = 8 := rounds_len hR8 i
    have hz : (sched blk 64).length = 64 := sched_len _ _
    refine tk_own1 (.head _) fun hfvv => ?_; refine tk_seq ?_; refine s_r ?_; refine s_q rfl (y_move rfl) ?_; refine s_q rfl (y_lss rfl rfl) ?_; refine s_n ?_; refine tk_condP rfl (fun ht124 => ?_) (fun ht124 => ?_)
    · skip
      refine tk_skip ?_; refine tk_then ?_; refine tk_seq ?_; refine tk_block ?_; refine tk_seq ?_; refine tk_drawH [own vv ((rounds R stepsL (sched blk 64) i).length) ((rounds R stepsL (sched blk 64) i).map W4) 210 1, cel b19 ((sched blk 64).map W4) 210, cel b18 (stepsL.map W4) 210] [] (by kernel_rfl) ?_; refine s_x 0 rfl (y_move rfl) ?_; refine s_x 1 rfl (y_ixR (j := 4) rfl rfl hfvv.choose_spec lenP (by kernel_rfl)) ?_
      refine s_l 2 rfl (fun _ h => h.sub (List.Sublist.refl _)) (y_load rfl rfl (fun w hw => ((fun w hw => own_rdS (hw.mem (.head _))) w hw).cell (gM (d := 0) lenP))) ?_; refine s_x 4 rfl (y_move rfl) ?_; refine s_x 5 rfl (y_ixR (j := 4) rfl rfl hfvv.choose_spec lenP (by kernel_rfl)) ?_; refine s_l 6 rfl (fun _ h => h.sub (List.Sublist.refl _)) (y_load rfl rfl (fun w hw => ((fun w hw => own_rdS (hw.mem (.head _))) w hw).cell (gM (d := 0) lenP))) ?_
      refine s_x 9 rfl (y_move rfl) ?_; refine s_x 10 rfl (y_ixR (j := 4) rfl rfl hfvv.choose_spec lenP (by kernel_rfl)) ?_; refine s_l 11 rfl (fun _ h => h.sub (List.Sublist.refl _)) (y_load rfl rfl (fun w hw => ((fun w hw => own_rdS (hw.mem (.head _))) w hw).cell (gM (d := 0) lenP))) ?_; refine tx_a 3 rfl (by kernel_rfl) rfl ?_; refine a_callv [] _ rfl (by kernel_rfl) rfl (fun w' hw' => right_spec ((rounds R stepsL (sched blk 64) i).getD 4 0) 6 (by decide)) rfl fun _ _ => ?_
      refine tk_S (fun _ h => h.sub (List.Sublist.refl _)) ?_; refine tx_a 7 rfl (by kernel_rfl) rfl ?_; refine a_callv [] _ rfl (by kernel_rfl) rfl (fun w' hw' => right_spec ((rounds R stepsL (sched blk 64) i).getD 4 0) 11 (by decide)) rfl fun _ _ => ?_; refine tk_S (fun _ h => h.sub (List.Sublist.refl _)) ?_; refine s_x 8 rfl (y_xorW (a := rr ((rounds R stepsL (sched blk 64) i).getD 4 0) 6) (b := rr ((rounds R stepsL (sched blk 64) i).getD 4 0) 11) rfl rfl) ?_
      refine tx_a 12 rfl (by kernel_rfl) rfl ?_; refine a_callv [] _ rfl (by kernel_rfl) rfl (fun w' hw' => right_spec ((rounds R stepsL (sched blk 64) i).getD 4 0) 25 (by decide)) rfl fun _ _ => ?_; refine tk_S (fun _ h => h.sub (List.Sublist.refl _)) ?_; refine s_x 13 rfl (y_xorW (a := (rr ((rounds R stepsL (sched blk 64) i).getD 4 0) 6) ^^^ (rr ((rounds R stepsL (sched blk 64) i).getD 4 0) 11)) (b := rr ((rounds R stepsL (sched blk 64) i).getD 4 0) 25) rfl rfl) ?_
      refine s_x 14 rfl (y_assign rfl) ?_; refine tx_done (by kernel_rfl) ?_; refine tk_then ?_; refine tk_seq ?_; refine tk_drawH [own vv ((rounds R stepsL (sched blk 64) i).length) ((rounds R stepsL (sched blk 64) i).map W4) 210 1, cel b19 ((sched blk 64).map W4) 210, cel b18 (stepsL.map W4) 210] [] (by kernel_rfl) ?_; refine s_x 0 rfl (y_move rfl) ?_; refine s_x 1 rfl (y_ixR (j := 0) rfl rfl hfvv.choose_spec lenP (by kernel_rfl)) ?_
      refine s_l 2 rfl (fun _ h => h.sub (List.Sublist.refl _)) (y_load rfl rfl (fun w hw => ((fun w hw => own_rdS (hw.mem (.head _))) w hw).cell (gM (d := 0) lenP))) ?_; refine s_x 4 rfl (y_move rfl) ?_; refine s_x 5 rfl (y_ixR (j := 0) rfl rfl hfvv.choose_spec lenP (by kernel_rfl)) ?_; refine s_l 6 rfl (fun _ h => h.sub (List.Sublist.refl _)) (y_load rfl rfl (fun w hw => ((fun w hw => own_rdS (hw.mem (.head _))) w hw).cell (gM (d := 0) lenP))) ?_
      refine s_x 9 rfl (y_move rfl) ?_; refine s_x 10 rfl (y_ixR (j := 0) rfl rfl hfvv.choose_spec lenP (by kernel_rfl)) ?_; refine s_l 11 rfl (fun _ h => h.sub (List.Sublist.refl _)) (y_load rfl rfl (fun w hw => ((fun w hw => own_rdS (hw.mem (.head _))) w hw).cell (gM (d := 0) lenP))) ?_; refine tx_a 3 rfl (by kernel_rfl) rfl ?_; refine a_callv [] _ rfl (by kernel_rfl) rfl (fun w' hw' => right_spec ((rounds R stepsL (sched blk 64) i).getD 0 0) 2 (by decide)) rfl fun _ _ => ?_
      refine tk_S (fun _ h => h.sub (List.Sublist.refl _)) ?_; refine tx_a 7 rfl (by kernel_rfl) rfl ?_; refine a_callv [] _ rfl (by kernel_rfl) rfl (fun w' hw' => right_spec ((rounds R stepsL (sched blk 64) i).getD 0 0) 13 (by decide)) rfl fun _ _ => ?_; refine tk_S (fun _ h => h.sub (List.Sublist.refl _)) ?_; refine s_x 8 rfl (y_xorW (a := rr ((rounds R stepsL (sched blk 64) i).getD 0 0) 2) (b := rr ((rounds R stepsL (sched blk 64) i).getD 0 0) 13) rfl rfl) ?_
      refine tx_a 12 rfl (by kernel_rfl) rfl ?_; refine a_callv [] _ rfl (by kernel_rfl) rfl (fun w' hw' => right_spec ((rounds R stepsL (sched blk 64) i).getD 0 0) 22 (by decide)) rfl fun _ _ => ?_; refine tk_S (fun _ h => h.sub (List.Sublist.refl _)) ?_; refine s_x 13 rfl (y_xorW (a := (rr ((rounds R stepsL (sched blk 64) i).getD 0 0) 2) ^^^ (rr ((rounds R stepsL (sched blk 64) i).getD 0 0) 13)) (b := rr ((rounds R stepsL (sched blk 64) i).getD 0 0) 22) rfl rfl) ?_
      refine s_x 14 rfl (y_assign rfl) ?_; refine tx_done (by kernel_rfl) ?_; refine tk_then ?_; refine tk_seq ?_; refine tk_drawH [own vv ((rounds R stepsL (sched blk 64) i).length) ((rounds R stepsL (sched blk 64) i).map W4) 210 1, cel b19 ((sched blk 64).map W4) 210, cel b18 (stepsL.map W4) 210] [] (by kernel_rfl) ?_; refine s_x 0 rfl (y_move rfl) ?_; refine s_x 1 rfl (y_ixR (j := 4) rfl rfl hfvv.choose_spec lenP (by kernel_rfl)) ?_
      refine s_l 2 rfl (fun _ h => h.sub (List.Sublist.refl _)) (y_load rfl rfl (fun w hw => ((fun w hw => own_rdS (hw.mem (.head _))) w hw).cell (gM (d := 0) lenP))) ?_; refine s_x 3 rfl (y_move rfl) ?_; refine s_x 4 rfl (y_ixR (j := 5) rfl rfl hfvv.choose_spec lenP (by kernel_rfl)) ?_; refine s_l 5 rfl (fun _ h => h.sub (List.Sublist.refl _)) (y_load rfl rfl (fun w hw => ((fun w hw => own_rdS (hw.mem (.head _))) w hw).cell (gM (d := 0) lenP))) ?_
      refine s_x 6 rfl (y_andW (a := (rounds R stepsL (sched blk 64) i).getD 4 0) (b := (rounds R stepsL (sched blk 64) i).getD 5 0) rfl rfl) ?_; refine s_x 7 rfl (y_move rfl) ?_; refine s_x 8 rfl (y_ixR (j := 4) rfl rfl hfvv.choose_spec lenP (by kernel_rfl)) ?_; refine s_l 9 rfl (fun _ h => h.sub (List.Sublist.refl _)) (y_load rfl rfl (fun w hw => ((fun w hw => own_rdS (hw.mem (.head _))) w hw).cell (gM (d := 0) lenP))) ?_
      refine s_x 10 rfl (y_notW (a := (rounds R stepsL (sched blk 64) i).getD 4 0) rfl) ?_; refine s_x 11 rfl (y_move rfl) ?_; refine s_x 12 rfl (y_ixR (j := 6) rfl rfl hfvv.choose_spec lenP (by kernel_rfl)) ?_; refine s_l 13 rfl (fun _ h => h.sub (List.Sublist.refl _)) (y_load rfl rfl (fun w hw => ((fun w hw => own_rdS (hw.mem (.head _))) w hw).cell (gM (d := 0) lenP))) ?_; refine s_x 14 rfl (y_andW (a := ~~~((rounds R stepsL (sched blk 64) i).getD 4 0)) (b := (rounds R stepsL (sched blk 64) i).getD 6 0) rfl rfl) ?_
      refine s_x 15 rfl (y_xorW (a := ((rounds R stepsL (sched blk 64) i).getD 4 0) &&& ((rounds R stepsL (sched blk 64) i).getD 5 0)) (b := (~~~((rounds R stepsL (sched blk 64) i).getD 4 0)) &&& ((rounds R stepsL (sched blk 64) i).getD 6 0)) rfl rfl) ?_; refine s_x 16 rfl (y_assign rfl) ?_; refine tx_done (by kernel_rfl) ?_; refine tk_then ?_; refine tk_seq ?_; refine tk_drawH [own vv ((rounds R stepsL (sched blk 64) i).length) ((rounds R stepsL (sched blk 64) i).map W4) 210 1, cel b19 ((sched blk 64).map W4) 210, cel b18 (stepsL.map W4) 210] [] (by kernel_rfl) ?_
      refine s_x 0 rfl (y_move rfl) ?_; refine s_x 1 rfl (y_ixR (j := 0) rfl rfl hfvv.choose_spec lenP (by kernel_rfl)) ?_; refine s_l 2 rfl (fun _ h => h.sub (List.Sublist.refl _)) (y_load rfl rfl (fun w hw => ((fun w hw => own_rdS (hw.mem (.head _))) w hw).cell (gM (d := 0) lenP))) ?_; refine s_x 3 rfl (y_move rfl) ?_; refine s_x 4 rfl (y_ixR (j := 1) rfl rfl hfvv.choose_spec lenP (by kernel_rfl)) ?_
      refine s_l 5 rfl (fun _ h => h.sub (List.Sublist.refl _)) (y_load rfl rfl (fun w hw => ((fun w hw => own_rdS (hw.mem (.head _))) w hw).cell (gM (d := 0) lenP))) ?_; refine s_x 6 rfl (y_andW (a := (rounds R stepsL (sched blk 64) i).getD 0 0) (b := (rounds R stepsL (sched blk 64) i).getD 1 0) rfl rfl) ?_; refine s_x 7 rfl (y_move rfl) ?_; refine s_x 8 rfl (y_ixR (j := 0) rfl rfl hfvv.choose_spec lenP (by kernel_rfl)) ?_
      refine s_l 9 rfl (fun _ h => h.sub (List.Sublist.refl _)) (y_load rfl rfl (fun w hw => ((fun w hw => own_rdS (hw.mem (.head _))) w hw).cell (gM (d := 0) lenP))) ?_; refine s_x 10 rfl (y_move rfl) ?_; refine s_x 11 rfl (y_ixR (j := 2) rfl rfl hfvv.choose_spec lenP (by kernel_rfl)) ?_; refine s_l 12 rfl (fun _ h => h.sub (List.Sublist.refl _)) (y_load rfl rfl (fun w hw => ((fun w hw => own_rdS (hw.mem (.head _))) w hw).cell (gM (d := 0) lenP))) ?_
      refine s_x 13 rfl (y_andW (a := (rounds R stepsL (sched blk 64) i).getD 0 0) (b := (rounds R stepsL (sched blk 64) i).getD 2 0) rfl rfl) ?_; refine s_x 14 rfl (y_xorW (a := ((rounds R stepsL (sched blk 64) i).getD 0 0) &&& ((rounds R stepsL (sched blk 64) i).getD 1 0)) (b := ((rounds R stepsL (sched blk 64) i).getD 0 0) &&& ((rounds R stepsL (sched blk 64) i).getD 2 0)) rfl rfl) ?_; refine s_x 15 rfl (y_move rfl) ?_
      refine s_x 16 rfl (y_ixR (j := 1) rfl rfl hfvv.choose_spec lenP (by kernel_rfl)) ?_; refine s_l 17 rfl (fun _ h => h.sub (List.Sublist.refl _)) (y_load rfl rfl (fun w hw => ((fun w hw => own_rdS (hw.mem (.head _))) w hw).cell (gM (d := 0) lenP))) ?_; refine s_x 18 rfl (y_move rfl) ?_; refine s_x 19 rfl (y_ixR (j := 2) rfl rfl hfvv.choose_spec lenP (by kernel_rfl)) ?_; refine s_l 20 rfl (fun _ h => h.sub (List.Sublist.refl _)) (y_load rfl rfl (fun w hw => ((fun w hw => own_rdS (hw.mem (.head _))) w hw).cell (gM (d := 0) lenP))) ?_
      refine s_x 21 rfl (y_andW (a := (rounds R stepsL (sched blk 64) i).getD 1 0) (b := (rounds R stepsL (sched blk 64) i).getD 2 0) rfl rfl) ?_; refine s_x 22 rfl (y_xorW (a := (((rounds R stepsL (sched blk 64) i).getD 0 0) &&& ((rounds R stepsL (sched blk 64) i).getD 1 0)) ^^^ (((rounds R stepsL (sched blk 64) i).getD 0 0) &&& ((rounds R stepsL (sched blk 64) i).getD 2 0))) (b := ((rounds R stepsL (sched blk 64) i).getD 1 0) &&& ((rounds R stepsL (sched blk 64) i).getD 2 0)) rfl rfl) ?_
      refine s_x 23 rfl (y_assign rfl) ?_; refine tx_done (by kernel_rfl) ?_; refine tk_then ?_; refine tk_seq ?_; refine tk_drawH [own vv ((rounds R stepsL (sched blk 64) i).length) ((rounds R stepsL (sched blk 64) i).map W4) 210 1, cel b19 ((sched blk 64).map W4) 210, cel b18 (stepsL.map W4) 210] [] (by kernel_rfl) ?_; refine s_x 0 rfl (y_move rfl) ?_; refine s_x 1 rfl (y_ixR (j := 7) rfl rfl hfvv.choose_spec lenP (by kernel_rfl)) ?_
      refine s_l 2 rfl (fun _ h => h.sub (List.Sublist.refl _)) (y_load rfl rfl (fun w hw => ((fun w hw => own_rdS (hw.mem (.head _))) w hw).cell (gM (d := 0) lenP))) ?_; refine s_x 3 rfl (y_move rfl) ?_; refine s_x 4 rfl (y_addW (a := (rounds R stepsL (sched blk 64) i).getD 7 0) (b := ((rr ((rounds R stepsL (sched blk 64) i).getD 4 0) 6) ^^^ (rr ((rounds R stepsL (sched blk 64) i).getD 4 0) 11)) ^^^ (rr ((rounds R stepsL (sched blk 64) i).getD 4 0) 25)) rfl rfl) ?_
      refine s_x 5 rfl (y_move rfl) ?_; refine s_x 6 rfl (y_addW (a := ((rounds R stepsL (sched blk 64) i).getD 7 0) + (((rr ((rounds R stepsL (sched blk 64) i).getD 4 0) 6) ^^^ (rr ((rounds R stepsL (sched blk 64) i).getD 4 0) 11)) ^^^ (rr ((rounds R stepsL (sched blk 64) i).getD 4 0) 25))) (b := (((rounds R stepsL (sched blk 64) i).getD 4 0) &&& ((rounds R stepsL (sched blk 64) i).getD 5 0)) ^^^ ((~~~((rounds R stepsL (sched blk 64) i).getD 4 0)) &&& ((rounds R stepsL (sched blk 64) i).getD 6 0))) rfl rfl) ?_
      refine s_x 7 rfl (y_move rfl) ?_; refine s_x 8 rfl (y_move rfl) ?_; refine s_x 9 rfl (y_ixS01 (i := i) rfl rfl (by kernel_rfl) (by omega)) ?_; refine s_l 10 rfl (fun _ h => h.sub (List.Sublist.refl _)) (y_load rfl rfl (hc (o := i) (.tail _ (.tail _ (.head _))) (gM (d := 0) lenP))) ?_; refine s_x 11 rfl (y_addW (a := (((rounds R stepsL (sched blk 64) i).getD 7 0) + (((rr ((rounds R stepsL (sched blk 64) i).getD 4 0) 6) ^^^ (rr ((rounds R stepsL (sched blk 64) i).getD 4 0) 11)) ^^^ (rr ((rounds R stepsL (sched blk 64) i).getD 4 0) 25))) + ((((rounds R stepsL (sched blk 64) i).getD 4 0) &&& ((rounds R stepsL (sched blk 64) i).getD 5 0)) ^^^ ((~~~((rounds R stepsL (sched blk 64) i).getD 4 0)) &&& ((rounds R stepsL (sched blk 64) i).getD 6 0)))) (b := stepsL.getD i 0) rfl rfl) ?_
      refine s_x 12 rfl (y_move rfl) ?_; refine s_x 13 rfl (y_move rfl) ?_; refine s_x 14 rfl (y_ixS01 (i := i) rfl rfl (by kernel_rfl) (by omega)) ?_; refine s_l 15 rfl (fun _ h => h.sub (List.Sublist.refl _)) (y_load rfl rfl (hc (o := i) (.tail _ (.head _)) (gM (d := 0) lenP))) ?_; refine s_x 16 rfl (y_addW (a := ((((rounds R stepsL (sched blk 64) i).getD 7 0) + (((rr ((rounds R stepsL (sched blk 64) i).getD 4 0) 6) ^^^ (rr ((rounds R stepsL (sched blk 64) i).getD 4 0) 11)) ^^^ (rr ((rounds R stepsL (sched blk 64) i).getD 4 0) 25))) + ((((rounds R stepsL (sched blk 64) i).getD 4 0) &&& ((rounds R stepsL (sched blk 64) i).getD 5 0)) ^^^ ((~~~((rounds R stepsL (sched blk 64) i).getD 4 0)) &&& ((rounds R stepsL (sched blk 64) i).getD 6 0)))) + (stepsL.getD i 0)) (b := (sched blk 64).getD i 0) rfl rfl) ?_
      refine s_x 17 rfl (y_assign rfl) ?_; refine tx_done (by kernel_rfl) ?_; refine tk_then ?_; refine tk_drawH [own vv ((rounds R stepsL (sched blk 64) i).length) ((rounds R stepsL (sched blk 64) i).map W4) 210 1, cel b19 ((sched blk 64).map W4) 210, cel b18 (stepsL.map W4) 210] [] (by kernel_rfl) ?_; refine s_x 0 rfl (y_move rfl) ?_; refine s_x 1 rfl (y_move rfl) ?_; refine s_x 2 rfl (y_addW (a := (((((rounds R stepsL (sched blk 64) i).getD 7 0) + (((rr ((rounds R stepsL (sched blk 64) i).getD 4 0) 6) ^^^ (rr ((rounds R stepsL (sched blk 64) i).getD 4 0) 11)) ^^^ (rr ((rounds R stepsL (sched blk 64) i).getD 4 0) 25))) + ((((rounds R stepsL (sched blk 64) i).getD 4 0) &&& ((rounds R stepsL (sched blk 64) i).getD 5 0)) ^^^ ((~~~((rounds R stepsL (sched blk 64) i).getD 4 0)) &&& ((rounds R stepsL (sched blk 64) i).getD 6 0)))) + (stepsL.getD i 0)) + ((sched blk 64).getD i 0)) (b := ((rr ((rounds R stepsL (sched blk 64) i).getD 0 0) 2) ^^^ (rr ((rounds R stepsL (sched blk 64) i).getD 0 0) 13)) ^^^ (rr ((rounds R stepsL (sched blk 64) i).getD 0 0) 22)) rfl rfl) ?_
      refine s_x 3 rfl (y_move rfl) ?_; refine s_x 4 rfl (y_addW (a := ((((((rounds R stepsL (sched blk 64) i).getD 7 0) + (((rr ((rounds R stepsL (sched blk 64) i).getD 4 0) 6) ^^^ (rr ((rounds R stepsL (sched blk 64) i).getD 4 0) 11)) ^^^ (rr ((rounds R stepsL (sched blk 64) i).getD 4 0) 25))) + ((((rounds R stepsL (sched blk 64) i).getD 4 0) &&& ((rounds R stepsL (sched blk 64) i).getD 5 0)) ^^^ ((~~~((rounds R stepsL (sched blk 64) i).getD 4 0)) &&& ((rounds R stepsL (sched blk 64) i).getD 6 0)))) + (stepsL.getD i 0)) + ((sched blk 64).getD i 0)) + (((rr ((rounds R stepsL (sched blk 64) i).getD 0 0) 2) ^^^ (rr ((rounds R stepsL (sched blk 64) i).getD 0 0) 13)) ^^^ (rr ((rounds R stepsL (sched blk 64) i).getD 0 0) 22))) (b := ((((rounds R stepsL (sched blk 64) i).getD 0 0) &&& ((rounds R stepsL (sched blk 64) i).getD 1 0)) ^^^ (((rounds R stepsL (sched blk 64) i).getD 0 0) &&& ((rounds R stepsL (sched blk 64) i).getD 2 0))) ^^^ (((rounds R stepsL (sched blk 64) i).getD 1 0) &&& ((rounds R stepsL (sched blk 64) i).getD 2 0))) rfl rfl) ?_
      refine s_x 5 rfl (y_move rfl) ?_; refine s_x 6 rfl (y_ixR (j := 0) rfl rfl hfvv.choose_spec lenP (by kernel_rfl)) ?_; refine s_l 7 rfl (fun _ h => h.sub (List.Sublist.refl _)) (y_load rfl rfl (fun w hw => ((fun w hw => own_rdS (hw.mem (.head _))) w hw).cell (gM (d := 0) lenP))) ?_; refine s_x 8 rfl (y_move rfl) ?_; refine s_x 9 rfl (y_ixR (j := 1) rfl rfl hfvv.choose_spec lenP (by kernel_rfl)) ?_
      refine s_l 10 rfl (fun _ h => h.sub (List.Sublist.refl _)) (y_load rfl rfl (fun w hw => ((fun w hw => own_rdS (hw.mem (.head _))) w hw).cell (gM (d := 0) lenP))) ?_; refine s_x 11 rfl (y_move rfl) ?_; refine s_x 12 rfl (y_ixR (j := 2) rfl rfl hfvv.choose_spec lenP (by kernel_rfl)) ?_; refine s_l 13 rfl (fun _ h => h.sub (List.Sublist.refl _)) (y_load rfl rfl (fun w hw => ((fun w hw => own_rdS (hw.mem (.head _))) w hw).cell (gM (d := 0) lenP))) ?_
      refine s_x 14 rfl (y_move rfl) ?_; refine s_x 15 rfl (y_ixR (j := 3) rfl rfl hfvv.choose_spec lenP (by kernel_rfl)) ?_; refine s_l 16 rfl (fun _ h => h.sub (List.Sublist.refl _)) (y_load rfl rfl (fun w hw => ((fun w hw => own_rdS (hw.mem (.head _))) w hw).cell (gM (d := 0) lenP))) ?_; refine s_x 17 rfl (y_move rfl) ?_; refine s_x 18 rfl (y_addW (a := (rounds R stepsL (sched blk 64) i).getD 3 0) (b := (((((rounds R stepsL (sched blk 64) i).getD 7 0) + (((rr ((rounds R stepsL (sched blk 64) i).getD 4 0) 6) ^^^ (rr ((rounds R stepsL (sched blk 64) i).getD 4 0) 11)) ^^^ (rr ((rounds R stepsL (sched blk 64) i).getD 4 0) 25))) + ((((rounds R stepsL (sched blk 64) i).getD 4 0) &&& ((rounds R stepsL (sched blk 64) i).getD 5 0)) ^^^ ((~~~((rounds R stepsL (sched blk 64) i).getD 4 0)) &&& ((rounds R stepsL (sched blk 64) i).getD 6 0)))) + (stepsL.getD i 0)) + ((sched blk 64).getD i 0)) rfl rfl) ?_
      refine s_x 19 rfl (y_move rfl) ?_; refine s_x 20 rfl (y_ixR (j := 4) rfl rfl hfvv.choose_spec lenP (by kernel_rfl)) ?_; refine s_l 21 rfl (fun _ h => h.sub (List.Sublist.refl _)) (y_load rfl rfl (fun w hw => ((fun w hw => own_rdS (hw.mem (.head _))) w hw).cell (gM (d := 0) lenP))) ?_; refine s_x 22 rfl (y_move rfl) ?_; refine s_x 23 rfl (y_ixR (j := 5) rfl rfl hfvv.choose_spec lenP (by kernel_rfl)) ?_
      refine s_l 24 rfl (fun _ h => h.sub (List.Sublist.refl _)) (y_load rfl rfl (fun w hw => ((fun w hw => own_rdS (hw.mem (.head _))) w hw).cell (gM (d := 0) lenP))) ?_; refine s_x 25 rfl (y_move rfl) ?_; refine s_x 26 rfl (y_ixR (j := 6) rfl rfl hfvv.choose_spec lenP (by kernel_rfl)) ?_; refine s_l 27 rfl (fun _ h => h.sub (List.Sublist.refl _)) (y_load rfl rfl (fun w hw => ((fun w hw => own_rdS (hw.mem (.head _))) w hw).cell (gM (d := 0) lenP))) ?_
      refine tx_a 28 rfl (by kernel_rfl) rfl ?_; refine a_slitN (vs := [W4 ((((((((rounds R stepsL (sched blk 64) i).getD 7 0) + (((rr ((rounds R stepsL (sched blk 64) i).getD 4 0) 6) ^^^ (rr ((rounds R stepsL (sched blk 64) i).getD 4 0) 11)) ^^^ (rr ((rounds R stepsL (sched blk 64) i).getD 4 0) 25))) + ((((rounds R stepsL (sched blk 64) i).getD 4 0) &&& ((rounds R stepsL (sched blk 64) i).getD 5 0)) ^^^ ((~~~((rounds R stepsL (sched blk 64) i).getD 4 0)) &&& ((rounds R stepsL (sched blk 64) i).getD 6 0)))) + (stepsL.getD i 0)) + ((sched blk 64).getD i 0)) + (((rr ((rounds R stepsL (sched blk 64) i).getD 0 0) 2) ^^^ (rr ((rounds R stepsL (sched blk 64) i).getD 0 0) 13)) ^^^ (rr ((rounds R stepsL (sched blk 64) i).getD 0 0) 22))) + (((((rounds R stepsL (sched blk 64) i).getD 0 0) &&& ((rounds R stepsL (sched blk 64) i).getD 1 0)) ^^^ (((rounds R stepsL (sched blk 64) i).getD 0 0) &&& ((rounds R stepsL (sched blk 64) i).getD 2 0))) ^^^ (((rounds R stepsL (sched blk 64) i).getD 1 0) &&& ((rounds R stepsL (sched blk 64) i).getD 2 0)))), W4 ((rounds R stepsL (sched blk 64) i).getD 0 0), W4 ((rounds R stepsL (sched blk 64) i).getD 1 0), W4 ((rounds R stepsL (sched blk 64) i).getD 2 0), W4 (((rounds R stepsL (sched blk 64) i).getD 3 0) + ((((((rounds R stepsL (sched blk 64) i).getD 7 0) + (((rr ((rounds R stepsL (sched blk 64) i).getD 4 0) 6) ^^^ (rr ((rounds R stepsL (sched blk 64) i).getD 4 0) 11)) ^^^ (rr ((rounds R stepsL (sched blk 64) i).getD 4 0) 25))) + ((((rounds R stepsL (sched blk 64) i).getD 4 0) &&& ((rounds R stepsL (sched blk 64) i).getD 5 0)) ^^^ ((~~~((rounds R stepsL (sched blk 64) i).getD 4 0)) &&& ((rounds R stepsL (sched blk 64) i).getD 6 0)))) + (stepsL.getD i 0)) + ((sched blk 64).getD i 0))), W4 ((rounds R stepsL (sched blk 64) i).getD 4 0), W4 ((rounds R stepsL (sched blk 64) i).getD 5 0), W4 ((rounds R stepsL (sched blk 64) i).getD 6 0)]) rfl (List.forall_mem_cons.2 ⟨rfl, (List.forall_mem_cons.2 ⟨rfl, (List.forall_mem_cons.2 ⟨rfl, (List.forall_mem_cons.2 ⟨rfl, (List.forall_mem_cons.2 ⟨rfl, (List.forall_mem_cons.2 ⟨rfl, (List.forall_mem_cons.2 ⟨rfl, (List.forall_mem_cons.2 ⟨rfl, (fun _ h => nomatch h)⟩)⟩)⟩)⟩)⟩)⟩)⟩)⟩) (EL225) rfl rfl (by decide) fun b239 => ?_
      refine tk_S (fun _ h => h.sub (.cons _ (List.Sublist.refl _))) ?_; refine s_x 29 rfl (y_assign rfl) ?_; refine tx_done (by kernel_rfl) ?_; refine tk_in_normal ?_; refine tk_then ?_; refine tk_region ?_; refine s_q rfl (y_move rfl) ?_; refine s_q rfl (y_addN (a := i) (b := 1) rfl rfl (by omega)) ?_; refine s_q rfl (y_assign rfl) ?_; refine tk_nil ?_; refine tk_H [cel b239 ((rounds R stepsL (sched blk 64) (i + 1)).map W4) 210, own vv ((rounds R stepsL (sched blk 64) i).length) ((rounds R stepsL (sched blk 64) i).map W4) 210 1, cel b19 ((sched blk 64).map W4) 210, cel b18 (stepsL.map W4) 210] (congrArg (fun z => [cel b239 z 210, own vv ((rounds R stepsL (sched blk 64) i).length) ((rounds R stepsL (sched blk 64) i).map W4) 210 1, cel b19 ((sched blk 64).map W4) 210, cel b18 (stepsL.map W4) 210]) (show [W4 ((((((((rounds R stepsL (sched blk 64) i).getD 7 0) + (((rr ((rounds R stepsL (sched blk 64) i).getD 4 0) 6) ^^^ (rr ((rounds R stepsL (sched blk 64) i).getD 4 0) 11)) ^^^ (rr ((rounds R stepsL (sched blk 64) i).getD 4 0) 25))) + ((((rounds R stepsL (sched blk 64) i).getD 4 0) &&& ((rounds R stepsL (sched blk 64) i).getD 5 0)) ^^^ ((~~~((rounds R stepsL (sched blk 64) i).getD 4 0)) &&& ((rounds R stepsL (sched blk 64) i).getD 6 0)))) + (stepsL.getD i 0)) + ((sched blk 64).getD i 0)) + (((rr ((rounds R stepsL (sched blk 64) i).getD 0 0) 2) ^^^ (rr ((rounds R stepsL (sched blk 64) i).getD 0 0) 13)) ^^^ (rr ((rounds R stepsL (sched blk 64) i).getD 0 0) 22))) + (((((rounds R stepsL (sched blk 64) i).getD 0 0) &&& ((rounds R stepsL (sched blk 64) i).getD 1 0)) ^^^ (((rounds R stepsL (sched blk 64) i).getD 0 0) &&& ((rounds R stepsL (sched blk 64) i).getD 2 0))) ^^^ (((rounds R stepsL (sched blk 64) i).getD 1 0) &&& ((rounds R stepsL (sched blk 64) i).getD 2 0)))), W4 ((rounds R stepsL (sched blk 64) i).getD 0 0), W4 ((rounds R stepsL (sched blk 64) i).getD 1 0), W4 ((rounds R stepsL (sched blk 64) i).getD 2 0), W4 (((rounds R stepsL (sched blk 64) i).getD 3 0) + ((((((rounds R stepsL (sched blk 64) i).getD 7 0) + (((rr ((rounds R stepsL (sched blk 64) i).getD 4 0) 6) ^^^ (rr ((rounds R stepsL (sched blk 64) i).getD 4 0) 11)) ^^^ (rr ((rounds R stepsL (sched blk 64) i).getD 4 0) 25))) + ((((rounds R stepsL (sched blk 64) i).getD 4 0) &&& ((rounds R stepsL (sched blk 64) i).getD 5 0)) ^^^ ((~~~((rounds R stepsL (sched blk 64) i).getD 4 0)) &&& ((rounds R stepsL (sched blk 64) i).getD 6 0)))) + (stepsL.getD i 0)) + ((sched blk 64).getD i 0))), W4 ((rounds R stepsL (sched blk 64) i).getD 4 0), W4 ((rounds R stepsL (sched blk 64) i).getD 5 0), W4 ((rounds R stepsL (sched blk 64) i).getD 6 0)] = (rounds R stepsL (sched blk 64) (i + 1)).map W4 from congrArg (List.map W4) ((rstep_ref (rounds R stepsL (sched blk 64) i) (stepsL.getD i 0) ((sched blk 64).getD i 0) rfl rfl rfl rfl rfl).trans rounds_succ.symm))) ?_
      refine tk_celM (H1 := []) (T := 210) (f := W4) (l := rounds R stepsL (sched blk 64) (i + 1)) rfl (rounds_len hR8 (i + 1)) (by decide) ?_
      exact tk_again ((i + 1, .slice (some ⟨b239, 0, none⟩) 8 8)) (by first | exact trivial | omega | (dsimp only; omega)) (by first | omega | (dsimp only; omega)) (by repeat (first | exact trivial | refine ⟨rfl, ?_⟩)) (.cons_cons _ (.cons _ (List.Sublist.refl _)))
    · skip
      refine tk_exit ?_; refine tk_then_exit ?_; refine tk_then_exit ?_; refine tk_in_hit ?_; refine tk_then ?_; refine tk_seq ?_; refine s_r ?_; refine s_q rfl (y_assign rfl) ?_; refine s_n ?_; refine tk_block ?_; refine tk_H [own vv ((addI (rounds R stepsL (sched blk 64) 64) R 0).length) ((addI (rounds R stepsL (sched blk 64) 64) R 0).map W4) 210 1, cel b19 ((sched blk 64).map W4) 210, cel b18 (stepsL.map W4) 210] (congrArg (fun z_ => [z_, cel b19 ((sched blk 64).map W4) 210, cel b18 (stepsL.map W4) 210]) (show own vv ((rounds R stepsL (sched blk 64) i).length) ((rounds R stepsL (sched blk 64) i).map W4) 210 1 = own vv ((addI (rounds R stepsL (sched blk 64) 64) R 0).length) ((addI (rounds R stepsL (sched blk 64) 64) R 0).map W4) 210 1 from ownM_cast (by rw [show i = 64 by omega, addI_0 (rounds_len hR8 64)]))) ?_
      refine tk_loop (X := Nat) (fun i => i ≤ 8) (fun i => [(0, rv), (4, .slice none 0 0), (10, vv), (17, I ((i : Nat) : Int))]) (fun i => [own vv ((addI (rounds R stepsL (sched blk 64) 64) R i).length) ((addI (rounds R stepsL (sched blk 64) 64) R i).map W4) 210 1, cel b19 ((sched blk 64).map W4) 210, cel b18 (stepsL.map W4) 210]) (fun i => 8 - i) (0) (by first | exact trivial | omega | (dsimp only; omega)) (by repeat (first | exact trivial | refine ⟨rfl, ?_⟩)) ((List.Sublist.refl _)) ?_
      rintro i hI
      try dsimp only at hI ⊢
      have ha : (addI (rounds R stepsL (sched blk 64) 64) R i).length = 8 := addI_len
      refine tk_own1 (.head _) fun hfvv => ?_; refine tk_seq ?_; refine s_r ?_; refine s_q rfl (y_move rfl) ?_; refine s_q rfl (y_lss rfl rfl) ?_; refine s_n ?_; refine tk_condP rfl (fun ht241 => ?_) (fun ht241 => ?_)
      · skip
        refine tk_skip ?_; refine tk_then ?_; refine tk_seq ?_; refine tk_block ?_; refine tk_drawH [own vv ((addI (rounds R stepsL (sched blk 64) 64) R i).length) ((addI (rounds R stepsL (sched blk 64) 64) R i).map W4) 210 1, cel b19 ((sched blk 64).map W4) 210, cel b18 (stepsL.map W4) 210] [12] (by kernel_rfl) ?_; refine s_x 0 rfl (y_move rfl) ?_; refine s_x 1 rfl (y_move rfl) ?_; refine s_x 2 rfl (y_move rfl) ?_
        refine s_x 3 rfl (y_move rfl) ?_; refine s_x 4 rfl (y_ixR (j := i) rfl rfl hfvv.choose_spec lenP (by kernel_rfl)) ?_; refine s_l 5 rfl (fun _ h => h.sub (List.Sublist.refl _)) (y_load rfl rfl (fun w hw => ((fun w hw => own_rdS (hw.mem (.head _))) w hw).cell (gM (d := 0) lenP))) ?_; refine s_x 6 rfl (y_move rfl) ?_; refine s_x 7 rfl (y_move rfl) ?_; refine s_x 8 rfl (y_ixR (j := i) rfl rfl hr.1 lenP (by kernel_rfl)) ?_
        refine s_l 9 rfl (fun _ h => h.sub (List.Sublist.refl _)) (y_load rfl rfl (fun w hw => ((fun w hw => Ro.rd hr hw) w hw).cell (gM (d := 0) lenP))) ?_; refine s_x 10 rfl (y_addW (a := (addI (rounds R stepsL (sched blk 64) 64) R i).getD i 0) (b := R.getD i 0) rfl rfl) ?_; refine s_x 11 rfl (y_ixR (j := i) rfl rfl hfvv.choose_spec lenP (by kernel_rfl)) ?_; refine tx_x 12 rfl (by kernel_rfl) rfl rfl ?_; refine a_storeM (H1 := []) (f := W4) (l := addI (rounds R stepsL (sched blk 64) 64) R i) (i := i) (q := ((addI (rounds R stepsL (sched blk 64) 64) R i).getD i 0) + (R.getD i 0)) rfl rfl rfl (by kernel_rfl) rfl lenP ?_
        refine tx_done (by kernel_rfl) ?_; refine tk_in_normal ?_; refine tk_then ?_; refine tk_region ?_; refine s_q rfl (y_move rfl) ?_; refine s_q rfl (y_addN (a := i) (b := 1) rfl rfl (by omega)) ?_; refine s_q rfl (y_assign rfl) ?_; refine tk_nil ?_; refine tk_H [own vv ((addI (rounds R stepsL (sched blk 64) 64) R (i + 1)).length) ((addI (rounds R stepsL (sched blk 64) 64) R (i + 1)).map W4) 210 1, cel b19 ((sched blk 64).map W4) 210, cel b18 (stepsL.map W4) 210] (congrArg (fun z_ => [z_, cel b19 ((sched blk 64).map W4) 210, cel b18 (stepsL.map W4) 210]) (show own vv (((addI (rounds R stepsL (sched blk 64) 64) R i).set i (((addI (rounds R stepsL (sched blk 64) 64) R i).getD i 0) + (R.getD i 0))).length) (((addI (rounds R stepsL (sched blk 64) 64) R i).set i (((addI (rounds R stepsL (sched blk 64) 64) R i).getD i 0) + (R.getD i 0))).map W4) 210 1 = own vv ((addI (rounds R stepsL (sched blk 64) 64) R (i + 1)).length) ((addI (rounds R stepsL (sched blk 64) 64) R (i + 1)).map W4) 210 1 from ownM_cast (addI_set (by omega)))) ?_
        exact tk_again (i + 1) (by first | exact trivial | omega | (dsimp only; omega)) (by first | omega | (dsimp only; omega)) (by repeat (first | exact trivial | refine ⟨rfl, ?_⟩)) (List.Sublist.refl _)
      · skip
        refine tk_exit ?_; refine tk_then_exit ?_; refine tk_then_exit ?_; refine tk_in_hit ?_; refine tk_then ?_; refine s_r ?_; refine s_q rfl (y_move rfl) ?_; refine s_q rfl (y_assign rfl) ?_; refine s_n ?_; refine tk_retc ?_; refine tk_H [own vv ((blockF R blk).length) ((blockF R blk).map W4) 210 1, cel b19 ((sched blk 64).map W4) 210, cel b18 (stepsL.map W4) 210] (congrArg (fun z_ => [z_, cel b19 ((sched blk 64).map W4) 210, cel b18 (stepsL.map W4) 210]) (show own vv ((addI (rounds R stepsL (sched blk 64) 64) R i).length) ((addI (rounds R stepsL (sched blk 64) 64) R i).map W4) 210 1 = own vv ((blockF R blk).length) ((blockF R blk).map W4) 210 1 from ownM_cast (by rw [show i = 8 by omega, addI_comm, blockF]))) ?_
        exact tk_ret (vv) (trivial) (.inl rfl) (r1 rfl rfl) (.cons_cons _ (List.nil_sublist _))
end Go.Proofs.YtkkjfojgjmglpaaGreatDoor
set_option linter.unusedSimpArgs false
set_option linter.unusedVariables false
namespace Go.Proofs.YtkkjfojgjmglpaaGreatDoor
open Go Go.RowKit
set_option maxRecDepth 100000
attribute [local irreducible] sumL outB keyedL hmKey xorPad takeZ blockF len8 zc pad
theorem rof_spec {l : List UInt8} {w : World} (hb : l.length < 70368744177664) : Spec Tryz.prog 66 [Str l] w [] (fun _ : Unit => True) (fun _ => Str (sumL l)) (fun _ => []) := by
  refine spec_of (n := 77) Tryz.func66 rfl rfl trivial trivial rfl ?_
  obtain ⟨np, hnp, hnp0⟩ := pad_len l
  have hz := zc_def l.length
  have hpl : (pad l).length = l.length + 1 + zc l.length + 8 := by simp [pad]; omega
  refine s_r ?_; refine s_q rfl (y_assign rfl) ?_; refine s_n ?_; refine s_r ?_; refine s_q rfl (y_move rfl) ?_; refine tk_act rfl ?_; refine a_s2bO (l := l) rfl rfl rfl rfl rfl (by simp only [maxLen]; first | omega | (simp; done) | (simp; omega)) fun v10 => ?_; refine tk_own1 (.head _) fun hfv10 => ?_; refine tk_act rfl ?_; refine a_slitN (vs := [B 128]) rfl (List.forall_mem_cons.2 ⟨rfl, (fun _ h => nomatch h)⟩) (EL42) rfl rfl (by decide) fun b11 => ?_
  refine tk_act rfl ?_; refine a_appM (H1 := [_]) (f := B) (l := l) (m := [128]) rfl rfl EL42 rfl rfl (fun w hw => cel_rdE (o := 0) (m := 1) (cp := 1) (vs := [128].map B) (hw.mem (.head _)) (rfl) (by first | rfl | exact lenP | (simp; omega)) lenP) (fun _ => rfl) ⟨lenP, lenP⟩ fun v12 => ?_; refine tk_own1 (.tail _ (.head _)) fun hfv12 => ?_; refine s_q rfl (y_assign rfl) ?_; refine s_n ?_; refine tk_seq ?_
  refine tk_block ?_; refine tk_H [cel b11 ([B 128]) 5, own v12 ((l ++ [128] ++ List.replicate 0 0).length) ((l ++ [128] ++ List.replicate 0 0).map B) 5 1] (congrArg (fun z_ => [cel b11 ([B 128]) 5, z_]) (show own v12 ((l ++ [128]).length) ((l ++ [128]).map B) 5 1 = own v12 ((l ++ [128] ++ List.replicate 0 0).length) ((l ++ [128] ++ List.replicate 0 0).map B) 5 1 from ownM_cast (by simp))) ?_; refine tk_loop (X := Nat × Value) (fun (j, vb) => j ≤ zc l.length) (fun (j, vb) => [(0, Str l), (2, Str []), (3, vb)]) (fun (j, vb) => [cel b11 ([B 128]) 5, own vb ((l ++ [128] ++ List.replicate j 0).length) ((l ++ [128] ++ List.replicate j 0).map B) 5 1]) (fun (j, vb) => zc l.length - j) ((0, v12)) (Nat.zero_le _) (by repeat (first | exact trivial | refine ⟨rfl, ?_⟩)) ((List.Sublist.refl _)) ?_
  rintro ⟨j, vb⟩ hI
  try dsimp only at hI ⊢
  have hlen : (l ++ [128] ++ List.replicate j 0).length = l.length + 1 + j := by simp; omega
  refine tk_own1 (.tail _ (.head _)) fun hfb => ?_; refine tk_seq ?_; refine s_r ?_; refine s_q rfl (y_move rfl) ?_; refine s_q rfl (y_lenRN (n' := (l ++ [128] ++ List.replicate j 0).length) rfl hfb.choose_spec rfl (by first | rfl | (rw [List.length_map]; omega) | simp)) ?_; refine s_q rfl (y_remN (a := (l ++ [128] ++ List.replicate j 0).length) (b := 64) rfl rfl (by omega)) ?_; refine s_q rfl (y_neq rfl rfl) ?_
  refine s_n ?_; refine tk_condP rfl (fun ht16 => ?_) (fun ht16 => ?_)
  · skip
    refine tk_skip ?_; refine tk_then ?_; refine tk_block ?_; refine tk_region ?_; refine s_q rfl (y_move rfl) ?_; refine tk_act rfl ?_; refine a_slitN (vs := [B 0]) rfl (List.forall_mem_cons.2 ⟨rfl, (fun _ h => nomatch h)⟩) (EL42) rfl rfl (by decide) fun b18 => ?_; refine tk_act rfl ?_; refine a_appM (H1 := [_, _]) (f := B) (l := l ++ [128] ++ List.replicate j 0) (m := [0]) rfl rfl EL42 rfl rfl (fun w hw => cel_rdE (o := 0) (m := 1) (cp := 1) (vs := [0].map B) (hw.mem (.head _)) (rfl) (by first | rfl | exact lenP | (simp; omega)) lenP) (fun _ => rfl) ⟨lenP, lenP⟩ fun v19 => ?_
    refine tk_own1 (.tail _ (.tail _ (.head _))) fun hfv19 => ?_; refine s_q rfl (y_assign rfl) ?_; refine tk_nil ?_; refine tk_in_normal ?_; refine tk_H [cel b18 ([B 0]) 5, cel b11 ([B 128]) 5, own v19 ((l ++ [128] ++ List.replicate (j + 1) 0).length) ((l ++ [128] ++ List.replicate (j + 1) 0).map B) 5 1] (congrArg (fun z_ => [cel b18 ([B 0]) 5, cel b11 ([B 128]) 5, z_]) (show own v19 ((l ++ [128] ++ List.replicate j 0 ++ [0]).length) ((l ++ [128] ++ List.replicate j 0 ++ [0]).map B) 5 1 = own v19 ((l ++ [128] ++ List.replicate (j + 1) 0).length) ((l ++ [128] ++ List.replicate (j + 1) 0).map B) 5 1 from ownM_cast (by rw [List.replicate_succ', ← List.append_assoc]))) ?_
    exact tk_again ((j + 1, v19)) (by have h0 := ht16; dsimp only; omega) (by have h0 := ht16; dsimp only; omega) (by repeat (first | exact trivial | refine ⟨rfl, ?_⟩)) (.cons _ (List.Sublist.refl _))
  · skip
    refine tk_exit ?_; refine tk_then_exit ?_; refine tk_then_exit ?_; refine tk_in_hit ?_; refine tk_then ?_; refine s_r ?_; refine s_q rfl (y_move rfl) ?_; refine s_q rfl (y_lenStr (l := l) rfl rfl) ?_; refine s_q rfl (y_convi64 (m := l.length) rfl rfl rfl (wrap_u64 (by omega))) ?_; refine s_q rfl (y_mulU (a := l.length) (b := 8) rfl rfl (by omega)) ?_; refine s_q rfl (y_assign rfl) ?_; refine s_n ?_
    refine tk_seq ?_; refine s_r ?_; refine s_q rfl (y_assign rfl) ?_; refine s_n ?_; refine tk_block ?_
    have hj : j = zc l.length := by omega
    refine tk_H [cel b11 ([B 128]) 5, own vb ((l ++ [128] ++ List.replicate (zc l.length) 0 ++ len8 l.length 0).length) ((l ++ [128] ++ List.replicate (zc l.length) 0 ++ len8 l.length 0).map B) 5 1] (congrArg (fun z_ => [cel b11 ([B 128]) 5, z_]) (show own vb ((l ++ [128] ++ List.replicate j 0).length) ((l ++ [128] ++ List.replicate j 0).map B) 5 1 = own vb ((l ++ [128] ++ List.replicate (zc l.length) 0 ++ len8 l.length 0).length) ((l ++ [128] ++ List.replicate (zc l.length) 0 ++ len8 l.length 0).map B) 5 1 from ownM_cast (by rw [hj, len8_0, List.append_nil]))) ?_
    refine tk_loop (X := Nat × Value) (fun (j, vb) => j ≤ 8) (fun (j, vb) => [(2, Str []), (3, vb), (4, .int .u64 ((l.length * 8 : Nat) : Int)), (5, I (56 - 8 * (j : Int)))]) (fun (j, vb) => [cel b11 ([B 128]) 5, own vb ((l ++ [128] ++ List.replicate (zc l.length) 0 ++ len8 l.length j).length) ((l ++ [128] ++ List.replicate (zc l.length) 0 ++ len8 l.length j).map B) 5 1]) (fun (j, vb) => 8 - j) ((0, vb)) (Nat.zero_le _) (by repeat (first | exact trivial | refine ⟨rfl, ?_⟩)) ((List.Sublist.refl _)) ?_
    rintro ⟨j, vb⟩ hI
    try dsimp only at hI ⊢
    have hlen : (l ++ [128] ++ List.replicate (zc l.length) 0 ++ len8 l.length j).length = l.length + 1 + zc l.length + j := by simp; omega
    refine tk_own1 (.tail _ (.head _)) fun hfb => ?_; refine tk_seq ?_; refine s_r ?_; refine s_q rfl (y_move rfl) ?_; refine s_q rfl (y_geq rfl rfl) ?_; refine s_n ?_; refine tk_condP rfl (fun ht25 => ?_) (fun ht25 => ?_)
    · skip
      refine tk_skip ?_; refine tk_then ?_; refine tk_seq ?_; refine tk_block ?_; refine tk_region ?_; refine tk_re 5 (I (56 - 8 * (j : Int))) (I ((56 - 8 * j : Nat) : Int)) rfl (congrArg I (by omega)) ?_; refine s_q rfl (y_move rfl) ?_; refine s_q rfl (y_move rfl) ?_; refine s_q rfl (y_move rfl) ?_; refine s_q rfl (y_shrN (a := l.length * 8) (m := 56 - 8 * j) rfl rfl (by simp [IntKind.bits]; omega)) ?_
      refine s_q rfl (y_convi8 (m := (l.length * 8) / 2 ^ (56 - 8 * j)) rfl rfl rfl) ?_; refine tk_act rfl ?_; refine a_slitN (vs := [B (UInt8.ofNat ((l.length * 8) / 2 ^ (56 - 8 * j)))]) rfl (List.forall_mem_cons.2 ⟨rfl, (fun _ h => nomatch h)⟩) (EL42) rfl rfl (by decide) fun b33 => ?_; refine tk_act rfl ?_; refine a_appM (H1 := [_, _]) (f := B) (l := l ++ [128] ++ List.replicate (zc l.length) 0 ++ len8 l.length j) (m := [UInt8.ofNat ((l.length * 8) / 2 ^ (56 - 8 * j))]) rfl rfl EL42 rfl rfl (fun w hw => cel_rdE (o := 0) (m := 1) (cp := 1) (vs := [UInt8.ofNat ((l.length * 8) / 2 ^ (56 - 8 * j))].map B) (hw.mem (.head _)) (rfl) (by first | rfl | exact lenP | (simp; omega)) lenP) (fun _ => rfl) ⟨lenP, lenP⟩ fun v34 => ?_
      refine tk_own1 (.tail _ (.tail _ (.head _))) fun hfv34 => ?_; refine s_q rfl (y_assign rfl) ?_; refine tk_nil ?_; refine tk_in_normal ?_; refine tk_then ?_; refine tk_region ?_; refine tk_re 5 (I ((56 - 8 * j : Nat) : Int)) (I (56 - 8 * (j : Int))) rfl (congrArg I (by omega)) ?_; refine s_q rfl (y_move rfl) ?_; refine s_q rfl (y_subI rfl rfl (by omega)) ?_; refine s_q rfl (y_assign rfl) ?_; refine tk_nil ?_
      refine tk_re 5 (I ((56 - 8 * (j : Int)) - (8 : Int))) (I (56 - 8 * ((j + 1 : Nat) : Int))) rfl (congrArg I (by omega)) ?_; refine tk_H [cel b33 ([B (UInt8.ofNat ((l.length * 8) / 2 ^ (56 - 8 * j)))]) 5, cel b11 ([B 128]) 5, own v34 ((l ++ [128] ++ List.replicate (zc l.length) 0 ++ len8 l.length (j + 1)).length) ((l ++ [128] ++ List.replicate (zc l.length) 0 ++ len8 l.length (j + 1)).map B) 5 1] (congrArg (fun z_ => [cel b33 ([B (UInt8.ofNat ((l.length * 8) / 2 ^ (56 - 8 * j)))]) 5, cel b11 ([B 128]) 5, z_]) (show own v34 ((l ++ [128] ++ List.replicate (zc l.length) 0 ++ len8 l.length j ++ [UInt8.ofNat ((l.length * 8) / 2 ^ (56 - 8 * j))]).length) ((l ++ [128] ++ List.replicate (zc l.length) 0 ++ len8 l.length j ++ [UInt8.ofNat ((l.length * 8) / 2 ^ (56 - 8 * j))]).map B) 5 1 = own v34 ((l ++ [128] ++ List.replicate (zc l.length) 0 ++ len8 l.length (j + 1)).length) ((l ++ [128] ++ List.replicate (zc l.length) 0 ++ len8 l.length (j + 1)).map B) 5 1 from ownM_cast (by rw [← len8_snoc, ← List.append_assoc]; rfl))) ?_
      exact tk_again ((j + 1, v34)) (by dsimp only; omega) (by dsimp only; omega) (by repeat (first | exact trivial | refine ⟨rfl, ?_⟩)) (.cons _ (List.Sublist.refl _))
    · skip
      refine tk_H [cel b11 ([B 128]) 5, own vb ((pad l).length) ((pad l).map B) 5 1] (congrArg (fun z_ => [cel b11 ([B 128]) 5, z_]) (show own vb ((l ++ [128] ++ List.replicate (zc l.length) 0 ++ len8 l.length j).length) ((l ++ [128] ++ List.replicate (zc l.length) 0 ++ len8 l.length j).map B) 5 1 = own vb ((pad l).length) ((pad l).map B) 5 1 from ownM_cast (by rw [show j = 8 by omega]; exact pad_def))) ?_
      refine tk_own1 (.tail _ (.head _)) fun hfb => ?_; refine tk_exit ?_; refine tk_then_exit ?_; refine tk_then_exit ?_; refine tk_in_hit ?_; refine tk_then ?_; refine s_r ?_; refine tk_act rfl ?_; refine a_slitN (vs := [W4 1779033703, W4 3144134277, W4 1013904242, W4 2773480762, W4 1359893119, W4 2600822924, W4 528734635, W4 1541459225]) rfl (List.forall_mem_cons.2 ⟨rfl, (List.forall_mem_cons.2 ⟨rfl, (List.forall_mem_cons.2 ⟨rfl, (List.forall_mem_cons.2 ⟨rfl, (List.forall_mem_cons.2 ⟨rfl, (List.forall_mem_cons.2 ⟨rfl, (List.forall_mem_cons.2 ⟨rfl, (List.forall_mem_cons.2 ⟨rfl, (fun _ h => nomatch h)⟩)⟩)⟩)⟩)⟩)⟩)⟩)⟩) (EL225) rfl rfl (by decide) fun b35 => ?_
      refine s_q rfl (y_assign rfl) ?_; refine s_n ?_; refine tk_seq ?_; refine tk_block ?_; refine tk_H [cel b35 (beginL.map W4) 210, cel b11 ([B 128]) 5, own vb ((pad l).length) ((pad l).map B) 5 1] (congrArg (fun z => [cel b35 z 210, cel b11 ([B 128]) 5, own vb ((pad l).length) ((pad l).map B) 5 1]) (show [W4 1779033703, W4 3144134277, W4 1013904242, W4 2773480762, W4 1359893119, W4 2600822924, W4 528734635, W4 1541459225] = beginL.map W4 from rfl)) ?_
      refine tk_celM (H1 := []) (T := 210) (f := W4) (l := beginL) rfl rfl (by decide) ?_; refine tk_H [own ((.slice (some ⟨b35, 0, none⟩) 8 8)) ((foldB beginL ((pad l).take (64 * 0))).length) ((foldB beginL ((pad l).take (64 * 0))).map W4) 210 1, cel b11 ([B 128]) 5, own vb ((pad l).length) ((pad l).map B) 5 1] (congrArg (fun z_ => [z_, cel b11 ([B 128]) 5, own vb ((pad l).length) ((pad l).map B) 5 1]) (show own ((.slice (some ⟨b35, 0, none⟩) 8 8)) beginL.length (beginL.map W4) 210 1 = own ((.slice (some ⟨b35, 0, none⟩) 8 8)) ((foldB beginL ((pad l).take (64 * 0))).length) ((foldB beginL ((pad l).take (64 * 0))).map W4) 210 1 from ownM_cast (by rw [Nat.mul_zero, List.take_zero, foldB_lt (by simp)]))) ?_
      refine tk_loop (X := Nat × Value × Value) (fun (j, vr, vp) => 64 * j ≤ (pad l).length ∧ ∀ w, RdB w vb (pad l) → RdB w vp ((pad l).drop (64 * j))) (fun (j, vr, vp) => [(2, Str []), (3, vp), (6, vr)]) (fun (j, vr, vp) => [own vr ((foldB beginL ((pad l).take (64 * j))).length) ((foldB beginL ((pad l).take (64 * j))).map W4) 210 1, cel b11 ([B 128]) 5, own vb ((pad l).length) ((pad l).map B) 5 1]) (fun (j, vr, vp) => (pad l).length - 64 * j) ((0, .slice (some ⟨b35, 0, none⟩) 8 8, vb)) (⟨Nat.zero_le _, fun w h => h⟩) (by repeat (first | exact trivial | refine ⟨rfl, ?_⟩)) ((List.Sublist.refl _)) ?_
      rintro ⟨j, vr, vp⟩ hI
      try dsimp only at hI ⊢
      have hdl : ((pad l).drop (64 * j)).length = (pad l).length - 64 * j := List.length_drop
      have hf8 : (foldB beginL ((pad l).take (64 * j))).length = 8 := foldB_len rfl j _ (by simp; omega)
      refine tk_own1 (.head _) fun hfr => ?_; refine tk_seq ?_; refine s_r ?_; refine s_q rfl (y_move rfl) ?_; refine s_q rfl (y_lenRN (n' := ((pad l).drop (64 * j)).length) rfl (hI.2 _ hfb.choose_spec) rfl (by first | rfl | (rw [List.length_map]; omega) | simp)) ?_; refine s_q rfl (y_gtr rfl rfl) ?_; refine s_n ?_; refine tk_condP rfl (fun ht38 => ?_) (fun ht38 => ?_)
      · skip
        refine tk_skip ?_; refine tk_then ?_; refine tk_block ?_; refine s_r ?_; refine s_q rfl (y_move rfl) ?_; refine s_q rfl (y_move rfl) ?_; refine s_q rfl (y_cutRBh (l := (pad l).drop (64 * j)) 64 rfl rfl (hI.2 _ hfb.choose_spec) (by kernel_rfl) lenP rfl) ?_; refine tk_act rfl ?_; refine a_callv [] _ rfl (by kernel_rfl) rfl (fun w' hw' => fold_spec (R := foldB beginL ((pad l).take (64 * j))) (blk := ((pad l).drop (64 * j)).take 64) (Ro.own (H0 := []) hw' (.head _)) (Ro.cutBh (Ro.nil (hI.2 _ (own_rdS (hw'.mem (.tail _ (.tail _ (.head _))))))) (hi := 64) lenP) lenP lenP) rfl fun v42 _ => ?_
        refine s_q rfl (y_assign rfl) ?_; refine s_n ?_; refine tk_region ?_; refine s_q rfl (y_move rfl) ?_; refine s_q rfl (y_cutRBl (l := (pad l).drop (64 * j)) 64 rfl rfl (hI.2 _ hfb.choose_spec) (by kernel_rfl) lenP rfl) ?_; refine s_q rfl (y_assign rfl) ?_; refine tk_nil ?_; refine tk_in_normal ?_; refine tk_H [own v42 ((foldB beginL ((pad l).take (64 * (j + 1)))).length) ((foldB beginL ((pad l).take (64 * (j + 1)))).map W4) 210 1, own vr ((foldB beginL ((pad l).take (64 * j))).length) ((foldB beginL ((pad l).take (64 * j))).map W4) 210 1, cel b11 ([B 128]) 5, own vb ((pad l).length) ((pad l).map B) 5 1] (congrArg (fun z_ => [z_, own vr ((foldB beginL ((pad l).take (64 * j))).length) ((foldB beginL ((pad l).take (64 * j))).map W4) 210 1, cel b11 ([B 128]) 5, own vb ((pad l).length) ((pad l).map B) 5 1]) (show own v42 ((blockF (foldB beginL ((pad l).take (64 * j))) (((pad l).drop (64 * j)).take 64)).length) ((blockF (foldB beginL ((pad l).take (64 * j))) (((pad l).drop (64 * j)).take 64)).map W4) 210 1 = own v42 ((foldB beginL ((pad l).take (64 * (j + 1)))).length) ((foldB beginL ((pad l).take (64 * (j + 1)))).map W4) 210 1 from ownM_cast (foldB_next (by have h0 := ht38; rw [List.length_drop] at h0; omega)))) ?_
        exact tk_again ((j + 1, v42, cutR vp 64 ((pad l).drop (64 * j)).length)) (⟨by have h0 := ht38; rw [List.length_drop] at h0; omega, fun w h => by have h1 := RdS.cutBl (lo := 64) (hI.2 w h) lenP; rw [List.drop_drop] at h1; exact h1⟩) (by have h0 := ht38; rw [List.length_drop] at h0; dsimp only; omega) (by repeat (first | exact trivial | refine ⟨rfl, ?_⟩)) (.cons_cons _ (.cons _ (List.Sublist.refl _)))
      · skip
        refine tk_exit ?_; refine tk_then_exit ?_; refine tk_then_exit ?_; refine tk_in_hit ?_; refine tk_then ?_; refine s_r ?_; refine s_q rfl (y_assign rfl) ?_; refine s_n ?_; refine tk_seq ?_; refine s_r ?_; refine s_q rfl (y_assign rfl) ?_; refine s_n ?_; refine tk_block ?_
        have hj : (pad l).take (64 * j) = pad l := by rw [List.take_of_length_le]; have h0 := ht38; rw [List.length_drop] at h0; omega
        refine tk_H [own vr ((foldB beginL (pad l)).length) ((foldB beginL (pad l)).map W4) 210 1, cel b11 ([B 128]) 5, own vb ((pad l).length) ((pad l).map B) 5 1] (congrArg (fun z_ => [z_, cel b11 ([B 128]) 5, own vb ((pad l).length) ((pad l).map B) 5 1]) (show own vr ((foldB beginL ((pad l).take (64 * j))).length) ((foldB beginL ((pad l).take (64 * j))).map W4) 210 1 = own vr ((foldB beginL (pad l)).length) ((foldB beginL (pad l)).map W4) 210 1 from ownM_cast (by rw [hj]))) ?_
        refine tk_ownM0 (f := B) 5 ?_; refine tk_loop (X := Nat × Value) (fun (i, vo) => i ≤ 8) (fun (i, vo) => [(2, Str []), (6, vr), (7, vo), (8, I ((i : Nat) : Int))]) (fun (i, vo) => [own vo (((outB (foldB beginL (pad l))).take (4 * i)).length) (((outB (foldB beginL (pad l))).take (4 * i)).map B) 5 1, own vr ((foldB beginL (pad l)).length) ((foldB beginL (pad l)).map W4) 210 1, cel b11 ([B 128]) 5, own vb ((pad l).length) ((pad l).map B) 5 1]) (fun (i, vo) => 8 - i) ((0, .slice none 0 0)) (Nat.zero_le _) (by repeat (first | exact trivial | refine ⟨rfl, ?_⟩)) ((List.Sublist.refl _)) ?_
        rintro ⟨i, vo⟩ hI
        try dsimp only at hI ⊢
        have hf8 : (foldB beginL (pad l)).length = 8 := foldB_len rfl np _ hnp
        have hol : ((outB (foldB beginL (pad l))).take (4 * i)).length ≤ 32 := by simp; omega
        refine tk_own1 (.head _) fun hfo => ?_; refine tk_own1 (.tail _ (.head _)) fun hfr => ?_; refine tk_seq ?_; refine s_r ?_; refine s_q rfl (y_move rfl) ?_; refine s_q rfl (y_lss rfl rfl) ?_; refine s_n ?_; refine tk_condP rfl (fun ht46 => ?_) (fun ht46 => ?_)
        · skip
          refine tk_skip ?_; refine tk_then ?_; refine tk_seq ?_; refine tk_block ?_; refine tk_drawH [own vr ((foldB beginL (pad l)).length) ((foldB beginL (pad l)).map W4) 210 1, cel b11 ([B 128]) 5, own vb ((pad l).length) ((pad l).map B) 5 1] [] (by kernel_rfl) ?_; refine s_x 0 rfl (y_move rfl) ?_; refine s_x 1 rfl (y_move rfl) ?_; refine s_x 2 rfl (y_move rfl) ?_; refine s_x 3 rfl (y_ixR (j := i) rfl rfl hfr.choose_spec lenP (by kernel_rfl)) ?_
          refine s_l 4 rfl (fun _ h => h.sub (.cons _ (List.Sublist.refl _))) (y_load rfl rfl (fun w hw => ((fun w hw => own_rdS (hw.mem (.head _))) w hw).cell (gM (d := 0) lenP))) ?_; refine s_x 5 rfl (y_shrW (a := (foldB beginL (pad l)).getD i 0) (m := 24) rfl rfl (by decide)) ?_; refine s_x 6 rfl (y_convW8 (a := ((foldB beginL (pad l)).getD i 0) >>> UInt32.ofNat 24) rfl rfl rfl) ?_; refine s_x 7 rfl (y_move rfl) ?_
          refine s_x 8 rfl (y_move rfl) ?_; refine s_x 9 rfl (y_ixR (j := i) rfl rfl hfr.choose_spec lenP (by kernel_rfl)) ?_; refine s_l 10 rfl (fun _ h => h.sub (.cons _ (List.Sublist.refl _))) (y_load rfl rfl (fun w hw => ((fun w hw => own_rdS (hw.mem (.head _))) w hw).cell (gM (d := 0) lenP))) ?_; refine s_x 11 rfl (y_shrW (a := (foldB beginL (pad l)).getD i 0) (m := 16) rfl rfl (by decide)) ?_
          refine s_x 12 rfl (y_convW8 (a := ((foldB beginL (pad l)).getD i 0) >>> UInt32.ofNat 16) rfl rfl rfl) ?_; refine s_x 13 rfl (y_move rfl) ?_; refine s_x 14 rfl (y_move rfl) ?_; refine s_x 15 rfl (y_ixR (j := i) rfl rfl hfr.choose_spec lenP (by kernel_rfl)) ?_; refine s_l 16 rfl (fun _ h => h.sub (.cons _ (List.Sublist.refl _))) (y_load rfl rfl (fun w hw => ((fun w hw => own_rdS (hw.mem (.head _))) w hw).cell (gM (d := 0) lenP))) ?_
          refine s_x 17 rfl (y_shrW (a := (foldB beginL (pad l)).getD i 0) (m := 8) rfl rfl (by decide)) ?_; refine s_x 18 rfl (y_convW8 (a := ((foldB beginL (pad l)).getD i 0) >>> UInt32.ofNat 8) rfl rfl rfl) ?_; refine s_x 19 rfl (y_move rfl) ?_; refine s_x 20 rfl (y_move rfl) ?_; refine s_x 21 rfl (y_ixR (j := i) rfl rfl hfr.choose_spec lenP (by kernel_rfl)) ?_; refine s_l 22 rfl (fun _ h => h.sub (.cons _ (List.Sublist.refl _))) (y_load rfl rfl (fun w hw => ((fun w hw => own_rdS (hw.mem (.head _))) w hw).cell (gM (d := 0) lenP))) ?_
          refine s_x 23 rfl (y_convW8 (a := (foldB beginL (pad l)).getD i 0) rfl rfl rfl) ?_; refine tx_a 24 rfl (by kernel_rfl) rfl ?_; refine a_slitN (vs := [B ((((foldB beginL (pad l)).getD i 0) >>> UInt32.ofNat 24).toUInt8), B ((((foldB beginL (pad l)).getD i 0) >>> UInt32.ofNat 16).toUInt8), B ((((foldB beginL (pad l)).getD i 0) >>> UInt32.ofNat 8).toUInt8), B (((foldB beginL (pad l)).getD i 0).toUInt8)]) rfl (List.forall_mem_cons.2 ⟨rfl, (List.forall_mem_cons.2 ⟨rfl, (List.forall_mem_cons.2 ⟨rfl, (List.forall_mem_cons.2 ⟨rfl, (fun _ h => nomatch h)⟩)⟩)⟩)⟩) (EL42) rfl rfl (by decide) fun b73 => ?_
          refine tk_S (fun _ h => h.sub (.cons _ (.cons _ (List.Sublist.refl _)))) ?_; refine tx_more [cel b73 ([B ((((foldB beginL (pad l)).getD i 0) >>> UInt32.ofNat 24).toUInt8), B ((((foldB beginL (pad l)).getD i 0) >>> UInt32.ofNat 16).toUInt8), B ((((foldB beginL (pad l)).getD i 0) >>> UInt32.ofNat 8).toUInt8), B (((foldB beginL (pad l)).getD i 0).toUInt8)]) 5, own vr ((foldB beginL (pad l)).length) ((foldB beginL (pad l)).map W4) 210 1, cel b11 ([B 128]) 5, own vb ((pad l).length) ((pad l).map B) 5 1] (fun _ h => h.sub (.cons _ (List.Sublist.refl _))) (fun _ h => h.sub (.cons_cons _ (.cons _ (List.Sublist.refl _)))) ?_
          refine tx_a 25 rfl (by kernel_rfl) rfl ?_; refine a_appM (H1 := [_]) (f := B) (l := (outB (foldB beginL (pad l))).take (4 * i)) (m := [(((foldB beginL (pad l)).getD i 0) >>> UInt32.ofNat 24).toUInt8, (((foldB beginL (pad l)).getD i 0) >>> UInt32.ofNat 16).toUInt8, (((foldB beginL (pad l)).getD i 0) >>> UInt32.ofNat 8).toUInt8, ((foldB beginL (pad l)).getD i 0).toUInt8]) rfl rfl EL42 rfl rfl (fun w hw => cel_rdE (o := 0) (m := 4) (cp := 4) (vs := [(((foldB beginL (pad l)).getD i 0) >>> UInt32.ofNat 24).toUInt8, (((foldB beginL (pad l)).getD i 0) >>> UInt32.ofNat 16).toUInt8, (((foldB beginL (pad l)).getD i 0) >>> UInt32.ofNat 8).toUInt8, ((foldB beginL (pad l)).getD i 0).toUInt8].map B) (hw.mem (.head _)) (rfl) (by first | rfl | exact lenP | (simp; omega)) lenP) (fun _ => rfl) ⟨lenP, lenP⟩ fun v74 => ?_
          refine tk_own1 (.tail _ (.head _)) fun hfv74 => ?_; refine tk_S (fun _ h => h.sub (.cons_cons _ (.cons _ (List.Sublist.refl _)))) ?_; refine s_x 26 rfl (y_assign rfl) ?_; refine tx_done (by kernel_rfl) ?_; refine tk_in_normal ?_; refine tk_then ?_; refine tk_region ?_; refine s_q rfl (y_move rfl) ?_; refine s_q rfl (y_addN (a := i) (b := 1) rfl rfl (by omega)) ?_; refine s_q rfl (y_assign rfl) ?_
          refine tk_nil ?_; refine tk_H [cel b73 ([B ((((foldB beginL (pad l)).getD i 0) >>> UInt32.ofNat 24).toUInt8), B ((((foldB beginL (pad l)).getD i 0) >>> UInt32.ofNat 16).toUInt8), B ((((foldB beginL (pad l)).getD i 0) >>> UInt32.ofNat 8).toUInt8), B (((foldB beginL (pad l)).getD i 0).toUInt8)]) 5, own v74 (((outB (foldB beginL (pad l))).take (4 * (i + 1))).length) (((outB (foldB beginL (pad l))).take (4 * (i + 1))).map B) 5 1, own vr ((foldB beginL (pad l)).length) ((foldB beginL (pad l)).map W4) 210 1, cel b11 ([B 128]) 5, own vb ((pad l).length) ((pad l).map B) 5 1] (congrArg (fun z_ => [cel b73 ([B ((((foldB beginL (pad l)).getD i 0) >>> UInt32.ofNat 24).toUInt8), B ((((foldB beginL (pad l)).getD i 0) >>> UInt32.ofNat 16).toUInt8), B ((((foldB beginL (pad l)).getD i 0) >>> UInt32.ofNat 8).toUInt8), B (((foldB beginL (pad l)).getD i 0).toUInt8)]) 5, z_, own vr ((foldB beginL (pad l)).length) ((foldB beginL (pad l)).map W4) 210 1, cel b11 ([B 128]) 5, own vb ((pad l).length) ((pad l).map B) 5 1]) (show own v74 ((((outB (foldB beginL (pad l))).take (4 * i)) ++ [(((foldB beginL (pad l)).getD i 0) >>> UInt32.ofNat 24).toUInt8, (((foldB beginL (pad l)).getD i 0) >>> UInt32.ofNat 16).toUInt8, (((foldB beginL (pad l)).getD i 0) >>> UInt32.ofNat 8).toUInt8, ((foldB beginL (pad l)).getD i 0).toUInt8]).length) ((((outB (foldB beginL (pad l))).take (4 * i)) ++ [(((foldB beginL (pad l)).getD i 0) >>> UInt32.ofNat 24).toUInt8, (((foldB beginL (pad l)).getD i 0) >>> UInt32.ofNat 16).toUInt8, (((foldB beginL (pad l)).getD i 0) >>> UInt32.ofNat 8).toUInt8, ((foldB beginL (pad l)).getD i 0).toUInt8]).map B) 5 1 = own v74 (((outB (foldB beginL (pad l))).take (4 * (i + 1))).length) (((outB (foldB beginL (pad l))).take (4 * (i + 1))).map B) 5 1 from ownM_cast (outB_snoc (by omega)))) ?_
          exact tk_again ((i + 1, v74)) (by dsimp only; omega) (by first | omega | (dsimp only; omega)) (by repeat (first | exact trivial | refine ⟨rfl, ?_⟩)) (.cons _ (List.Sublist.refl _))
        · skip
          refine tk_H [own vo ((sumL l).length) ((sumL l).map B) 5 1, own vr ((foldB beginL (pad l)).length) ((foldB beginL (pad l)).map W4) 210 1, cel b11 ([B 128]) 5, own vb ((pad l).length) ((pad l).map B) 5 1] (congrArg (fun z_ => [z_, own vr ((foldB beginL (pad l)).length) ((foldB beginL (pad l)).map W4) 210 1, cel b11 ([B 128]) 5, own vb ((pad l).length) ((pad l).map B) 5 1]) (show own vo (((outB (foldB beginL (pad l))).take (4 * i)).length) (((outB (foldB beginL (pad l))).take (4 * i)).map B) 5 1 = own vo ((sumL l).length) ((sumL l).map B) 5 1 from ownM_cast (by rw [show i = 8 by omega]; exact out_all))) ?_
          refine tk_exit ?_; refine tk_then_exit ?_; refine tk_then_exit ?_; refine tk_in_hit ?_; refine tk_then ?_; refine s_r ?_; refine s_q rfl (y_move rfl) ?_; refine s_q rfl (y_str (l := sumL l) rfl rfl rfl rfl (fun w hw => own_rdS (hw.mem (.head _)))) ?_; refine s_q rfl (y_assign rfl) ?_; refine s_n ?_; refine tk_retc ?_
          exact tk_ret (()) (trivial) (.inl rfl) (r1 rfl rfl) (List.nil_sublist _)
theorem rkeyed_spec {k l : List UInt8} {w : World} (hk : k.length < 1099511627776) (hb : l.length < 1099511627776) : Spec Tryz.prog 117 [Str k, Str l] w [] (fun _ : Unit => True) (fun _ => Str (keyedL k l)) (fun _ => []) := by
  refine spec_of (n := 60) Tryz.func117 rfl rfl trivial trivial rfl ?_
  have hk64 : (hmKey k).length ≤ 64 := hmKey_len
  refine s_r ?_; refine s_q rfl (y_assign rfl) ?_; refine s_n ?_; refine tk_seqI (X := Unit) (fun _ => True) (fun _ => [(0, Str (hmKey k)), (1, Str l), (4, Str [])]) (fun _ => []) ?_ ?_
  · skip
    refine s_r ?_; refine s_q rfl (y_move rfl) ?_; refine s_q rfl (y_lenStr (l := k) rfl rfl) ?_; refine s_q rfl (y_gtr rfl rfl) ?_; refine s_n ?_; refine tk_condP rfl (fun ht10 => ?_) (fun ht10 => ?_)
    · skip
      have hk0 : hmKey k = sumL k := by unfold hmKey; rw [if_pos (by omega)]
      refine tk_region ?_; refine s_q rfl (y_move rfl) ?_; refine tk_act rfl ?_; refine a_callv [] _ rfl (by kernel_rfl) rfl (fun w' hw' => rof_spec (l := k) lenP) rfl fun _ _ => ?_; refine s_q rfl (y_assign rfl) ?_; refine tk_nil ?_; refine tk_re 0 (Str (sumL k)) (Str (hmKey k)) rfl (by rw [hk0]) ?_
      exact tk_to (()) (by first | exact trivial | omega | (dsimp only; omega)) (by repeat (first | exact trivial | refine ⟨rfl, ?_⟩)) (List.Sublist.refl _)
    · skip
      have hk0 : hmKey k = k := by unfold hmKey; rw [if_neg (by omega)]
      refine tk_skip ?_; refine tk_re 0 (Str k) (Str (hmKey k)) rfl (by rw [hk0]) ?_
      exact tk_to (()) (by first | exact trivial | omega | (dsimp only; omega)) (by repeat (first | exact trivial | refine ⟨rfl, ?_⟩)) (List.Sublist.refl _)
  · rintro _ hI
    try dsimp only at hI ⊢
    refine tk_seqI (X := Nat × Nat) (fun (b13, b14) => True) (fun (b13, b14) => [(0, Str (hmKey k)), (1, Str l), (4, Str []), (5, .slice (some ⟨b13, 0, none⟩) 64 64), (6, .slice (some ⟨b14, 0, none⟩) 64 64)]) (fun (b13, b14) => [cel b13 ((List.replicate 64 0).map B) 5, cel b14 ((List.replicate 64 0).map B) 5]) ?_ ?_
    · skip
      refine tk_drawH [] [] (by kernel_rfl) ?_; refine tx_all (is := [0, 1]) (by kernel_rfl) rfl ⟨⟨_, rfl, rfl, ?_⟩, ⟨_, rfl, rfl, ?_⟩, trivial⟩
      · skip
        skip; refine a_makeM (f := B) (z := 0) (m := 64) rfl rfl MK42 rfl rfl ⟨lenP, lenP⟩ fun b13 => ?_
        refine tk_S (fun _ h => h.sub (List.nil_sublist _)) ?_; refine s_x 2 rfl (y_assign rfl) ?_; refine tx_a 1 rfl (by kernel_rfl) rfl ?_; refine a_makeM (f := B) (z := 0) (m := 64) rfl rfl MK42 rfl rfl ⟨lenP, lenP⟩ fun b14 => ?_; refine tk_S (fun _ h => h.sub (List.nil_sublist _)) ?_; refine s_x 3 rfl (y_assign rfl) ?_; refine tx_done (by kernel_rfl) ?_; refine tk_perm _ mv1 ?_
        exact tk_to ((b13, b14)) (by first | exact trivial | omega | (dsimp only; omega)) (by repeat (first | exact trivial | refine ⟨rfl, ?_⟩)) (List.Sublist.refl _)
      · skip
        skip; refine a_makeM (f := B) (z := 0) (m := 64) rfl rfl MK42 rfl rfl ⟨lenP, lenP⟩ fun b14 => ?_
        refine tk_S (fun _ h => h.sub (List.nil_sublist _)) ?_; refine tx_a 0 rfl (by kernel_rfl) rfl ?_; refine a_makeM (f := B) (z := 0) (m := 64) rfl rfl MK42 rfl rfl ⟨lenP, lenP⟩ fun b13 => ?_; refine tk_S (fun _ h => h.sub (List.nil_sublist _)) ?_; refine s_x 2 rfl (y_assign rfl) ?_; refine s_x 3 rfl (y_assign rfl) ?_; refine tx_done (by kernel_rfl) ?_
        exact tk_to ((b13, b14)) (by first | exact trivial | omega | (dsimp only; omega)) (by repeat (first | exact trivial | refine ⟨rfl, ?_⟩)) (List.Sublist.refl _)
    · rintro ⟨b13, b14⟩ hI
      try dsimp only at hI ⊢
      refine tk_seq ?_; refine s_r ?_; refine s_q rfl (y_assign rfl) ?_; refine s_n ?_; refine tk_block ?_; refine tk_H [cel b13 ((takeZ (xorPad (hmKey k) 54) 64 0).map B) 5, cel b14 ((List.replicate 64 0).map B) 5] (congrArg (fun z_ => [cel b13 z_ 5, cel b14 ((List.replicate 64 0).map B) 5]) (show (List.replicate 64 0).map B = (takeZ (xorPad (hmKey k) 54) 64 0).map B from by rw [takeZ_0])) ?_; refine tk_H [cel b13 ((takeZ (xorPad (hmKey k) 54) 64 0).map B) 5, cel b14 ((takeZ (xorPad (hmKey k) 92) 64 0).map B) 5] (congrArg (fun z_ => [cel b13 ((takeZ (xorPad (hmKey k) 54) 64 0).map B) 5, cel b14 z_ 5]) (show (List.replicate 64 0).map B = (takeZ (xorPad (hmKey k) 92) 64 0).map B from by rw [takeZ_0])) ?_
      refine tk_loop (X := Nat) (fun i => i ≤ 64) (fun i => [(0, Str (hmKey k)), (1, Str l), (4, Str []), (5, .slice (some ⟨b13, 0, none⟩) 64 64), (6, .slice (some ⟨b14, 0, none⟩) 64 64), (7, I ((i : Nat) : Int))]) (fun i => [cel b13 ((takeZ (xorPad (hmKey k) 54) 64 i).map B) 5, cel b14 ((takeZ (xorPad (hmKey k) 92) 64 i).map B) 5]) (fun i => 64 - i) (0) (by first | exact trivial | omega | (dsimp only; omega)) (by repeat (first | exact trivial | refine ⟨rfl, ?_⟩)) ((List.Sublist.refl _)) ?_
      rintro i hI
      try dsimp only at hI ⊢
      have hz1 : (takeZ (xorPad (hmKey k) 54) 64 i).length = 64 := takeZ_len xorPad_len (by omega)
      have hz2 : (takeZ (xorPad (hmKey k) 92) 64 i).length = 64 := takeZ_len xorPad_len (by omega)
      refine tk_seq ?_; refine s_r ?_; refine s_q rfl (y_move rfl) ?_; refine s_q rfl (y_lss rfl rfl) ?_; refine s_n ?_; refine tk_condP rfl (fun ht16 => ?_) (fun ht16 => ?_)
      · skip
        refine tk_skip ?_; refine tk_then ?_; refine tk_seq ?_; refine tk_block ?_; refine tk_seq ?_; refine s_r ?_; refine s_q rfl (y_move rfl) ?_; refine s_q rfl (y_move rfl) ?_; refine s_q rfl (y_lenStr (l := hmKey k) rfl rfl) ?_; refine s_q rfl (y_lss rfl rfl) ?_; refine s_n ?_; refine tk_condP rfl (fun ht22 => ?_) (fun ht22 => ?_)
        · skip
          refine tk_drawH [] [] (by kernel_rfl) ?_; refine s_x 0 rfl (y_move rfl) ?_; refine s_x 1 rfl (y_move rfl) ?_; refine s_x 2 rfl (y_move rfl) ?_; refine s_x 3 rfl (y_move rfl) ?_; refine s_x 4 rfl (y_move rfl) ?_; refine s_x 5 rfl (y_move rfl) ?_; refine s_x 6 rfl (y_ixT (l := hmKey k) (i := i) rfl rfl rfl ⟨rfl, lenP⟩) ?_; refine s_x 7 rfl (y_move rfl) ?_; refine s_x 8 rfl (y_move rfl) ?_; refine s_x 9 rfl (y_ixT (l := hmKey k) (i := i) rfl rfl rfl ⟨rfl, lenP⟩) ?_
          refine s_x 10 rfl (y_ixS01 (i := i) rfl rfl (by kernel_rfl) (by omega)) ?_; refine tx_a 11 rfl (by kernel_rfl) rfl ?_; refine a_storeE (H1 := []) (o := i) (v := B ((hmKey k).getD i 0)) (cs' := ((takeZ (xorPad (hmKey k) 54) 64 i).set i ((hmKey k).getD i 0)).map B) rfl rfl (by kernel_rfl) rfl rfl (by first | (simp; done) | (simp; omega)) (sM) ?_; refine tk_S (fun _ h => h.sub (List.nil_sublist _)) ?_
          refine s_x 12 rfl (y_ixS01 (i := i) rfl rfl (by kernel_rfl) (by omega)) ?_; refine tx_a 13 rfl (by kernel_rfl) rfl ?_; refine a_storeE (H1 := [_]) (o := i) (v := B ((hmKey k).getD i 0)) (cs' := ((takeZ (xorPad (hmKey k) 92) 64 i).set i ((hmKey k).getD i 0)).map B) rfl rfl (by kernel_rfl) rfl rfl (by first | (simp; done) | (simp; omega)) (sM) ?_; refine tk_S (fun _ h => h.sub (List.nil_sublist _)) ?_
          refine tx_done (by kernel_rfl) ?_; refine tk_then ?_; refine tk_drawH [cel b13 (((takeZ (xorPad (hmKey k) 54) 64 i).set i ((hmKey k).getD i 0)).map B) 5, cel b14 (((takeZ (xorPad (hmKey k) 92) 64 i).set i ((hmKey k).getD i 0)).map B) 5] [15, 17] (by kernel_rfl) ?_; refine s_x 0 rfl (y_move rfl) ?_; refine s_x 1 rfl (y_move rfl) ?_; refine s_x 2 rfl (y_move rfl) ?_; refine s_x 3 rfl (y_move rfl) ?_
          refine s_x 4 rfl (y_move rfl) ?_; refine s_x 5 rfl (y_move rfl) ?_; refine s_x 6 rfl (y_ixS01 (i := i) rfl rfl (by kernel_rfl) (by omega)) ?_; refine s_l 7 rfl (fun _ h => h.sub (List.Sublist.refl _)) (y_load rfl rfl (hc (o := i) (.head _) (gM (d := 0) lenP))) ?_; refine s_x 8 rfl (y_xor8 (a := ((takeZ (xorPad (hmKey k) 54) 64 i).set i ((hmKey k).getD i 0)).getD i 0) (b := 54) rfl rfl) ?_
          refine s_x 9 rfl (y_move rfl) ?_; refine s_x 10 rfl (y_move rfl) ?_; refine s_x 11 rfl (y_ixS01 (i := i) rfl rfl (by kernel_rfl) (by omega)) ?_; refine s_l 12 rfl (fun _ h => h.sub (List.Sublist.refl _)) (y_load rfl rfl (hc (o := i) (.tail _ (.head _)) (gM (d := 0) lenP))) ?_; refine s_x 13 rfl (y_xor8 (a := ((takeZ (xorPad (hmKey k) 92) 64 i).set i ((hmKey k).getD i 0)).getD i 0) (b := 92) rfl rfl) ?_
          refine s_x 14 rfl (y_ixS01 (i := i) rfl rfl (by kernel_rfl) (by omega)) ?_; refine tx_x 15 rfl (by kernel_rfl) rfl rfl ?_; refine a_storeE (H1 := []) (o := i) (v := B ((((takeZ (xorPad (hmKey k) 54) 64 i).set i ((hmKey k).getD i 0)).getD i 0) ^^^ 54)) (cs' := (((takeZ (xorPad (hmKey k) 54) 64 i).set i ((hmKey k).getD i 0)).set i ((((takeZ (xorPad (hmKey k) 54) 64 i).set i ((hmKey k).getD i 0)).getD i 0) ^^^ 54)).map B) rfl rfl (by kernel_rfl) rfl rfl (by first | (simp; done) | (simp; omega)) (sM) ?_
          refine s_x 16 rfl (y_ixS01 (i := i) rfl rfl (by kernel_rfl) (by omega)) ?_; refine tx_x 17 rfl (by kernel_rfl) rfl rfl ?_; refine a_storeE (H1 := [_]) (o := i) (v := B ((((takeZ (xorPad (hmKey k) 92) 64 i).set i ((hmKey k).getD i 0)).getD i 0) ^^^ 92)) (cs' := (((takeZ (xorPad (hmKey k) 92) 64 i).set i ((hmKey k).getD i 0)).set i ((((takeZ (xorPad (hmKey k) 92) 64 i).set i ((hmKey k).getD i 0)).getD i 0) ^^^ 92)).map B) rfl rfl (by kernel_rfl) rfl rfl (by first | (simp; done) | (simp; omega)) (sM) ?_
          refine tx_done (by kernel_rfl) ?_; refine tk_in_normal ?_; refine tk_then ?_; refine tk_region ?_; refine s_q rfl (y_move rfl) ?_; refine s_q rfl (y_addN (a := i) (b := 1) rfl rfl (by omega)) ?_; refine s_q rfl (y_assign rfl) ?_; refine tk_nil ?_; refine tk_H [cel b13 ((takeZ (xorPad (hmKey k) 54) 64 (i + 1)).map B) 5, cel b14 ((((takeZ (xorPad (hmKey k) 92) 64 i).set i ((hmKey k).getD i 0)).set i ((((takeZ (xorPad (hmKey k) 92) 64 i).set i ((hmKey k).getD i 0)).getD i 0) ^^^ 92)).map B) 5] (congrArg (fun z_ => [cel b13 z_ 5, cel b14 ((((takeZ (xorPad (hmKey k) 92) 64 i).set i ((hmKey k).getD i 0)).set i ((((takeZ (xorPad (hmKey k) 92) 64 i).set i ((hmKey k).getD i 0)).getD i 0) ^^^ 92)).map B) 5]) (show (((takeZ (xorPad (hmKey k) 54) 64 i).set i ((hmKey k).getD i 0)).set i ((((takeZ (xorPad (hmKey k) 54) 64 i).set i ((hmKey k).getD i 0)).getD i 0) ^^^ 54)).map B = (takeZ (xorPad (hmKey k) 54) 64 (i + 1)).map B from congrArg (List.map B) (padT (by omega)))) ?_
          refine tk_H [cel b13 ((takeZ (xorPad (hmKey k) 54) 64 (i + 1)).map B) 5, cel b14 ((takeZ (xorPad (hmKey k) 92) 64 (i + 1)).map B) 5] (congrArg (fun z_ => [cel b13 ((takeZ (xorPad (hmKey k) 54) 64 (i + 1)).map B) 5, cel b14 z_ 5]) (show (((takeZ (xorPad (hmKey k) 92) 64 i).set i ((hmKey k).getD i 0)).set i ((((takeZ (xorPad (hmKey k) 92) 64 i).set i ((hmKey k).getD i 0)).getD i 0) ^^^ 92)).map B = (takeZ (xorPad (hmKey k) 92) 64 (i + 1)).map B from congrArg (List.map B) (padT (by omega)))) ?_
          exact tk_again (i + 1) (by first | exact trivial | omega | (dsimp only; omega)) (by first | omega | (dsimp only; omega)) (by repeat (first | exact trivial | refine ⟨rfl, ?_⟩)) (List.Sublist.refl _)
        · skip
          refine tk_skip ?_; refine tk_then ?_; refine tk_drawH [cel b13 ((takeZ (xorPad (hmKey k) 54) 64 i).map B) 5, cel b14 ((takeZ (xorPad (hmKey k) 92) 64 i).map B) 5] [15, 17] (by kernel_rfl) ?_; refine s_x 0 rfl (y_move rfl) ?_; refine s_x 1 rfl (y_move rfl) ?_; refine s_x 2 rfl (y_move rfl) ?_; refine s_x 3 rfl (y_move rfl) ?_; refine s_x 4 rfl (y_move rfl) ?_; refine s_x 5 rfl (y_move rfl) ?_
          refine s_x 6 rfl (y_ixS01 (i := i) rfl rfl (by kernel_rfl) (by omega)) ?_; refine s_l 7 rfl (fun _ h => h.sub (List.Sublist.refl _)) (y_load rfl rfl (hc (o := i) (.head _) (gM (d := 0) lenP))) ?_; refine s_x 8 rfl (y_xor8 (a := (takeZ (xorPad (hmKey k) 54) 64 i).getD i 0) (b := 54) rfl rfl) ?_; refine s_x 9 rfl (y_move rfl) ?_; refine s_x 10 rfl (y_move rfl) ?_; refine s_x 11 rfl (y_ixS01 (i := i) rfl rfl (by kernel_rfl) (by omega)) ?_
          refine s_l 12 rfl (fun _ h => h.sub (List.Sublist.refl _)) (y_load rfl rfl (hc (o := i) (.tail _ (.head _)) (gM (d := 0) lenP))) ?_; refine s_x 13 rfl (y_xor8 (a := (takeZ (xorPad (hmKey k) 92) 64 i).getD i 0) (b := 92) rfl rfl) ?_; refine s_x 14 rfl (y_ixS01 (i := i) rfl rfl (by kernel_rfl) (by omega)) ?_; refine tx_x 15 rfl (by kernel_rfl) rfl rfl ?_; refine a_storeE (H1 := []) (o := i) (v := B (((takeZ (xorPad (hmKey k) 54) 64 i).getD i 0) ^^^ 54)) (cs' := ((takeZ (xorPad (hmKey k) 54) 64 i).set i (((takeZ (xorPad (hmKey k) 54) 64 i).getD i 0) ^^^ 54)).map B) rfl rfl (by kernel_rfl) rfl rfl (by first | (simp; done) | (simp; omega)) (sM) ?_
          refine s_x 16 rfl (y_ixS01 (i := i) rfl rfl (by kernel_rfl) (by omega)) ?_; refine tx_x 17 rfl (by kernel_rfl) rfl rfl ?_; refine a_storeE (H1 := [_]) (o := i) (v := B (((takeZ (xorPad (hmKey k) 92) 64 i).getD i 0) ^^^ 92)) (cs' := ((takeZ (xorPad (hmKey k) 92) 64 i).set i (((takeZ (xorPad (hmKey k) 92) 64 i).getD i 0) ^^^ 92)).map B) rfl rfl (by kernel_rfl) rfl rfl (by first | (simp; done) | (simp; omega)) (sM) ?_
          refine tx_done (by kernel_rfl) ?_; refine tk_in_normal ?_; refine tk_then ?_; refine tk_region ?_; refine s_q rfl (y_move rfl) ?_; refine s_q rfl (y_addN (a := i) (b := 1) rfl rfl (by omega)) ?_; refine s_q rfl (y_assign rfl) ?_; refine tk_nil ?_; refine tk_H [cel b13 ((takeZ (xorPad (hmKey k) 54) 64 (i + 1)).map B) 5, cel b14 (((takeZ (xorPad (hmKey k) 92) 64 i).set i (((takeZ (xorPad (hmKey k) 92) 64 i).getD i 0) ^^^ 92)).map B) 5] (congrArg (fun z_ => [cel b13 z_ 5, cel b14 (((takeZ (xorPad (hmKey k) 92) 64 i).set i (((takeZ (xorPad (hmKey k) 92) 64 i).getD i 0) ^^^ 92)).map B) 5]) (show ((takeZ (xorPad (hmKey k) 54) 64 i).set i (((takeZ (xorPad (hmKey k) 54) 64 i).getD i 0) ^^^ 54)).map B = (takeZ (xorPad (hmKey k) 54) 64 (i + 1)).map B from congrArg (List.map B) (padF (by omega) (by omega)))) ?_
          refine tk_H [cel b13 ((takeZ (xorPad (hmKey k) 54) 64 (i + 1)).map B) 5, cel b14 ((takeZ (xorPad (hmKey k) 92) 64 (i + 1)).map B) 5] (congrArg (fun z_ => [cel b13 ((takeZ (xorPad (hmKey k) 54) 64 (i + 1)).map B) 5, cel b14 z_ 5]) (show ((takeZ (xorPad (hmKey k) 92) 64 i).set i (((takeZ (xorPad (hmKey k) 92) 64 i).getD i 0) ^^^ 92)).map B = (takeZ (xorPad (hmKey k) 92) 64 (i + 1)).map B from congrArg (List.map B) (padF (by omega) (by omega)))) ?_
          exact tk_again (i + 1) (by first | exact trivial | omega | (dsimp only; omega)) (by first | omega | (dsimp only; omega)) (by repeat (first | exact trivial | refine ⟨rfl, ?_⟩)) (List.Sublist.refl _)
      · skip
        refine tk_H [cel b13 ((xorPad (hmKey k) 54).map B) 5, cel b14 ((takeZ (xorPad (hmKey k) 92) 64 i).map B) 5] (congrArg (fun z_ => [cel b13 z_ 5, cel b14 ((takeZ (xorPad (hmKey k) 92) 64 i).map B) 5]) (show (takeZ (xorPad (hmKey k) 54) 64 i).map B = (xorPad (hmKey k) 54).map B from by rw [show i = 64 by omega, takeZ_all xorPad_len])) ?_; refine tk_H [cel b13 ((xorPad (hmKey k) 54).map B) 5, cel b14 ((xorPad (hmKey k) 92).map B) 5] (congrArg (fun z_ => [cel b13 ((xorPad (hmKey k) 54).map B) 5, cel b14 z_ 5]) (show (takeZ (xorPad (hmKey k) 92) 64 i).map B = (xorPad (hmKey k) 92).map B from by rw [show i = 64 by omega, takeZ_all xorPad_len])) ?_
        refine tk_exit ?_; refine tk_then_exit ?_; refine tk_then_exit ?_; refine tk_in_hit ?_; refine tk_then ?_; refine tk_seq ?_; refine tk_drawH [cel b13 ((xorPad (hmKey k) 54).map B) 5, cel b14 ((xorPad (hmKey k) 92).map B) 5] [] (by kernel_rfl) ?_; refine s_x 0 rfl (y_move rfl) ?_; refine s_l 1 rfl (fun _ h => h.sub (List.Sublist.refl _)) (y_str (l := xorPad (hmKey k) 92) rfl rfl rfl rfl (fun w hw => cel_rdE (o := 0) (m := 64) (cp := 64) (vs := (xorPad (hmKey k) 92).map B) (hw.mem (.tail _ (.head _))) (dsW) (by first | rfl | exact lenP | (simp; omega)) lenP)) ?_
        refine s_x 2 rfl (y_move rfl) ?_; refine s_l 3 rfl (fun _ h => h.sub (List.Sublist.refl _)) (y_str (l := xorPad (hmKey k) 54) rfl rfl rfl rfl (fun w hw => cel_rdE (o := 0) (m := 64) (cp := 64) (vs := (xorPad (hmKey k) 54).map B) (hw.mem (.head _)) (dsW) (by first | rfl | exact lenP | (simp; omega)) lenP)) ?_; refine s_x 4 rfl (y_move rfl) ?_; refine s_x 5 rfl (y_catT (l := xorPad (hmKey k) 54) (m := l) rfl rfl lenP) ?_
        refine tx_a 6 rfl (by kernel_rfl) rfl ?_; refine a_callv [] _ rfl (by kernel_rfl) rfl (fun w' hw' => rof_spec (l := (xorPad (hmKey k) 54) ++ l) lenP) rfl fun _ _ => ?_; refine tk_S (fun _ h => h.sub (List.Sublist.refl _)) ?_; refine s_x 7 rfl (y_catT (l := xorPad (hmKey k) 92) (m := sumL ((xorPad (hmKey k) 54) ++ l)) rfl rfl lenP) ?_; refine tx_a 8 rfl (by kernel_rfl) rfl ?_; refine a_callv [] _ rfl (by kernel_rfl) rfl (fun w' hw' => rof_spec (l := (xorPad (hmKey k) 92) ++ (sumL ((xorPad (hmKey k) 54) ++ l))) lenP) rfl fun _ _ => ?_
        refine tk_S (fun _ h => h.sub (List.Sublist.refl _)) ?_; refine s_x 9 rfl ((y_assign rfl).cast (v := _) (u := Str (keyedL k l)) (by simp only [keyedL])) ?_; refine tx_done (by kernel_rfl) ?_; refine tk_then ?_; refine tk_retc ?_
        exact tk_ret (()) (trivial) (.inl rfl) (r1 rfl rfl) (List.nil_sublist _)
end Go.Proofs.YtkkjfojgjmglpaaGreatDoor
set_option linter.unusedSimpArgs false
set_option linter.unusedVariables false
namespace Go.Proofs.YtkkjfojgjmglpaaGreatDoor
open Go Go.ChangeShapes Go.WideShapes Go.ChangeAt Go.RowKit
set_option maxRecDepth 100000
theorem Tryz.own : ownKnob Tryz.prog.godebug = none := by kernel_rfl
theorem Tryz.laidOut : laidOutB Tryz.prog = true := by kernel_rfl
/-- a laid row of words -/
theorem words_cell {W : World} {nm : String} {g t e n fuel : Nat} {cs : Array Value} {p : List MemPlace} {l : List UInt32} {d : DataW Unit} (hg : Tryz.prog.globalNamed nm = some g) (hv : W.var? Tryz.prog nm = some cs)
    (hd : DataW.trod (fun _ => ()) Tryz.prog W 0 (fun _ => true) false fuel t cs.toList = some (d, p)) (ht : Tryz.prog.underlying t = some (.array n e)) (he : Tryz.prog.underlying e = some (.int .u32)) (c5 : Tryz.prog.cellsOf e = 1)
    (hl : d = .agg (l.map fun x => .lit (.int .u32 (x.toNat : Int)))) (hn : l.length = n) : ∀ (j : Nat) (v : Value), (l.map W4)[j]? = some v → W.cell? ⟨g, j, none⟩ = some v := by
  intro j v hj
  have hjl : j < l.length := by have := (List.getElem?_eq_some_iff.1 hj).1; simpa using this
  subst hl
  obtain ⟨xs, m, _, ex, _, hx, hel⟩ := DataW.trod_array ht hd
  have hE := hel j (by omega)
  rw [c5, Nat.mul_one, List.getElem?_eq_getElem (by omega)] at hE
  obtain ⟨z, e1, e2, _⟩ := DataW.trod_int he hE
  have e3 : (xs.map (·.1)) = l.map fun x => .lit (.int .u32 (x.toNat : Int)) := (DataW.agg.inj (Prod.mk.inj ex).1).symm
  have e4 : (xs.map (·.1))[j]? = (l.map fun x => (DataW.lit (.int .u32 (x.toNat : Int)) : DataW Unit))[j]? := by rw [e3]
  rw [List.getElem?_map, List.getElem?_map, List.getElem?_eq_getElem (by omega : j < xs.length), List.getElem?_eq_getElem hjl, e2] at e4
  have hz : z = ((l[j]).toNat : Int) := by
    simp only [Option.map_some, Option.some.injEq, DataW.lit.injEq, Lit.int.injEq, true_and] at e4
    exact e4
  have e5 : v = .int .u32 z := by
    rw [List.getElem?_map, List.getElem?_eq_getElem hjl] at hj
    simp only [Option.map_some, Option.some.injEq] at hj
    rw [← hj, hz]
  rw [World.var?_cell hg hv j, e5]
  have h0 : ((cs.toList.drop j).take 1)[0]? = some (.int .u32 z) := by rw [e1]; rfl
  simpa using h0
/-- cells one behind the other -/
theorem cut_cat {cs : List Value} {o k n : Nat} (h : o + k = n) : (cs.drop o).take k ++ cs.drop n = cs.drop o := by
  subst h; have := List.take_append_drop k (cs.drop o); rwa [List.drop_drop] at this
theorem cut_end {cs : List Value} {o k : Nat} (h : cs.length = o + k) : cs.drop o = (cs.drop o).take k := (List.take_of_length_le (by simp; omega)).symm
end Go.Proofs.YtkkjfojgjmglpaaGreatDoor
set_option linter.unusedSimpArgs false
set_option linter.unusedVariables false
namespace Go.Proofs.YtkkjfojgjmglpaaGreatDoor.Cip
def twice8 (x : UInt8) : UInt8 := UInt8.ofNat (x.toNat * 2 ^ 1) ^^^ (-(UInt8.ofNat (x.toNat / 2 ^ 7)) &&& 27)
def fwd : List UInt8 := [
  0x63, 0x7c, 0x77, 0x7b, 0xf2, 0x6b, 0x6f, 0xc5, 0x30, 0x01, 0x67, 0x2b, 0xfe, 0xd7, 0xab, 0x76,
  0xca, 0x82, 0xc9, 0x7d, 0xfa, 0x59, 0x47, 0xf0, 0xad, 0xd4, 0xa2, 0xaf, 0x9c, 0xa4, 0x72, 0xc0,
  0xb7, 0xfd, 0x93, 0x26, 0x36, 0x3f, 0xf7, 0xcc, 0x34, 0xa5, 0xe5, 0xf1, 0x71, 0xd8, 0x31, 0x15,
  0x04, 0xc7, 0x23, 0xc3, 0x18, 0x96, 0x05, 0x9a, 0x07, 0x12, 0x80, 0xe2, 0xeb, 0x27, 0xb2, 0x75,
  0x09, 0x83, 0x2c, 0x1a, 0x1b, 0x6e, 0x5a, 0xa0, 0x52, 0x3b, 0xd6, 0xb3, 0x29, 0xe3, 0x2f, 0x84,
  0x53, 0xd1, 0x00, 0xed, 0x20, 0xfc, 0xb1, 0x5b, 0x6a, 0xcb, 0xbe, 0x39, 0x4a, 0x4c, 0x58, 0xcf,
  0xd0, 0xef, 0xaa, 0xfb, 0x43, 0x4d, 0x33, 0x85, 0x45, 0xf9, 0x02, 0x7f, 0x50, 0x3c, 0x9f, 0xa8,
  0x51, 0xa3, 0x40, 0x8f, 0x92, 0x9d, 0x38, 0xf5, 0xbc, 0xb6, 0xda, 0x21, 0x10, 0xff, 0xf3, 0xd2,
  0xcd, 0x0c, 0x13, 0xec, 0x5f, 0x97, 0x44, 0x17, 0xc4, 0xa7, 0x7e, 0x3d, 0x64, 0x5d, 0x19, 0x73,
  0x60, 0x81, 0x4f, 0xdc, 0x22, 0x2a, 0x90, 0x88, 0x46, 0xee, 0xb8, 0x14, 0xde, 0x5e, 0x0b, 0xdb,
  0xe0, 0x32, 0x3a, 0x0a, 0x49, 0x06, 0x24, 0x5c, 0xc2, 0xd3, 0xac, 0x62, 0x91, 0x95, 0xe4, 0x79,
  0xe7, 0xc8, 0x37, 0x6d, 0x8d, 0xd5, 0x4e, 0xa9, 0x6c, 0x56, 0xf4, 0xea, 0x65, 0x7a, 0xae, 0x08,
  0xba, 0x78, 0x25, 0x2e, 0x1c, 0xa6, 0xb4, 0xc6, 0xe8, 0xdd, 0x74, 0x1f, 0x4b, 0xbd, 0x8b, 0x8a,
  0x70, 0x3e, 0xb5, 0x66, 0x48, 0x03, 0xf6, 0x0e, 0x61, 0x35, 0x57, 0xb9, 0x86, 0xc1, 0x1d, 0x9e,
  0xe1, 0xf8, 0x98, 0x11, 0x69, 0xd9, 0x8e, 0x94, 0x9b, 0x1e, 0x87, 0xe9, 0xce, 0x55, 0x28, 0xdf,
  0x8c, 0xa1, 0x89, 0x0d, 0xbf, 0xe6, 0x42, 0x68, 0x41, 0x99, 0x2d, 0x0f, 0xb0, 0x54, 0xbb, 0x16]
theorem fwd_len : fwd.length = 256 := by kernel_rfl
def sbox (b : UInt8) : UInt8 := fwd.getD b.toNat 0
def addTo (K : List UInt8) (r : Nat) (V : List UInt8) : Nat → List UInt8
  | 0 => V
  | k + 1 => (addTo K r V k).set k ((addTo K r V k).getD k 0 ^^^ K.getD (16 * r + k) 0)
theorem addTo_succ {K : List UInt8} {r : Nat} {V : List UInt8} {k : Nat} : addTo K r V (k + 1) = (addTo K r V k).set k ((addTo K r V k).getD k 0 ^^^ K.getD (16 * r + k) 0) := rfl
@[simp] theorem addTo_len {K : List UInt8} {r : Nat} {V : List UInt8} {k : Nat} : (addTo K r V k).length = V.length := by
  induction k with
  | zero => rfl
  | succ k ih => rw [addTo_succ]; simp [ih]
def shTo (V : List UInt8) : Nat → List UInt8
  | 0 => List.replicate 16 0
  | k + 1 => (shTo V k).set k (sbox (V.getD ((k + k % 4 * 4) % 16) 0))
theorem shTo_succ {V : List UInt8} {k : Nat} : shTo V (k + 1) = (shTo V k).set k (sbox (V.getD ((k + k % 4 * 4) % 16) 0)) := rfl
@[simp] theorem shTo_len {V : List UInt8} {k : Nat} : (shTo V k).length = 16 := by
  induction k with
  | zero => rfl
  | succ k ih => rw [shTo_succ]; simp [ih]
def mix1 (V : List UInt8) (c : Nat) : List UInt8 :=
  let a := V.getD c 0; let b := V.getD (c + 1) 0; let d := V.getD (c + 2) 0; let e := V.getD (c + 3) 0
  let all := a ^^^ b ^^^ d ^^^ e
  let V1 := V.set c (V.getD c 0 ^^^ (all ^^^ twice8 (a ^^^ b)))
  let V2 := V1.set (c + 1) (V1.getD (c + 1) 0 ^^^ (all ^^^ twice8 (b ^^^ d)))
  let V3 := V2.set (c + 2) (V2.getD (c + 2) 0 ^^^ (all ^^^ twice8 (d ^^^ e)))
  V3.set (c + 3) (V3.getD (c + 3) 0 ^^^ (all ^^^ twice8 (e ^^^ a)))
def mixTo (V : List UInt8) : Nat → List UInt8
  | 0 => V
  | k + 1 => mix1 (mixTo V k) (4 * k)
@[simp] theorem mix1_len {V : List UInt8} {c : Nat} : (mix1 V c).length = V.length := by simp [mix1]
@[simp] theorem mixTo_len {V : List UInt8} {k : Nat} : (mixTo V k).length = V.length := by
  induction k with
  | zero => rfl
  | succ k ih => simp [mixTo, ih]
def turnTo (K V : List UInt8) : Nat → List UInt8
  | 0 => addTo K 0 V 16
  | r + 1 => addTo K (r + 1) (if r + 1 < 14 then mixTo (shTo (turnTo K V r) 16) 4 else shTo (turnTo K V r) 16) 16
@[simp] theorem turnTo_len {K V : List UInt8} {r : Nat} (h : V.length = 16) : (turnTo K V r).length = 16 := by
  cases r with
  | zero => simp [turnTo, h]
  | succ r => simp only [turnTo, addTo_len]; split <;> simp
/-- AES-256's turn of a block by the round keys -/
def turn (K V : List UInt8) : List UInt8 := turnTo K V 14
/-! ## the round keys -/
def initTo (b : List UInt8) (i : Nat) : List UInt8 := b.take (i * 4) ++ List.replicate (240 - i * 4) 0
@[simp] theorem initTo_len {b : List UInt8} {i : Nat} (hb : b.length = 32) (hi : i ≤ 8) : (initTo b i).length = 240 := by simp [initTo]; omega
theorem initTo_succ {b : List UInt8} {i : Nat} (hb : b.length = 32) (hi : i < 8) : initTo b (i + 1) = (initTo b i).take (i * 4) ++ (b.drop (i * 4)).take 4 ++ (initTo b i).drop (i * 4 + 4) := by
  have e1 : (b.take (i * 4)).length = i * 4 := by simp; omega
  have e2 : b.take ((i + 1) * 4) = b.take (i * 4) ++ (b.drop (i * 4)).take 4 := by
    rw [show (i + 1) * 4 = i * 4 + 4 by omega, List.take_add]
  have e3 : (initTo b i).take (i * 4) = b.take (i * 4) := by
    simp only [initTo]; rw [List.take_append_of_le_length (by omega), List.take_take, Nat.min_self]
  have e4 : (initTo b i).drop (i * 4 + 4) = List.replicate (240 - (i + 1) * 4) 0 := by
    simp only [initTo]; rw [List.drop_append, List.drop_eq_nil_of_le (by omega), e1, List.drop_replicate, List.nil_append]
    congr 1; omega
  rw [e3, e4]; simp only [initTo, e2]
def subTo (T : List UInt8) : Nat → List UInt8
  | 0 => T
  | j + 1 => (subTo T j).set j (sbox ((subTo T j).getD j 0))
@[simp] theorem subTo_len {T : List UInt8} {j : Nat} : (subTo T j).length = T.length := by
  induction j with
  | zero => rfl
  | succ j ih => simp [subTo, ih]
def word (W : List UInt8) (i : Nat) : List UInt8 := (W.drop (i * 4)).take 4
@[simp] theorem word_len {W : List UInt8} {i : Nat} (h : W.length = 240) (hi : i < 60) : (word W i).length = 4 := by simp [word, h]; omega
def tvA (t : List UInt8) (con : UInt8) : List UInt8 := [sbox (t.getD 1 0) ^^^ con, sbox (t.getD 2 0), sbox (t.getD 3 0), sbox (t.getD 0 0)]
/-- what is put to the word eight words ahead; n: the word's number less 8 -/
def tv (W : List UInt8) (n : Nat) (con : UInt8) : List UInt8 :=
  let t := word W (n + 7)
  if n % 8 = 0 then tvA t con else if n % 8 = 4 then subTo t 4 else t
def putTo (W : List UInt8) (n : Nat) (T : List UInt8) : Nat → List UInt8
  | 0 => W
  | j + 1 => (putTo W n T j).set ((n + 8) * 4 + j) ((putTo W n T j).getD (n * 4 + j) 0 ^^^ T.getD j 0)
@[simp] theorem putTo_len {W : List UInt8} {n : Nat} {T : List UInt8} {j : Nat} : (putTo W n T j).length = W.length := by
  induction j with
  | zero => rfl
  | succ j ih => simp [putTo, ih]
def conN (con : UInt8) (n : Nat) : UInt8 := if n % 8 = 0 then UInt8.ofNat (con.toNat * 2 ^ 1) else con
def expW (b : List UInt8) : Nat → List UInt8 × UInt8
  | 0 => (initTo b 8, 1)
  | n + 1 => (putTo (expW b n).1 n (tv (expW b n).1 n (expW b n).2) 4, conN (expW b n).2 n)
@[simp] theorem expW_len {b : List UInt8} {n : Nat} (hb : b.length = 32) : (expW b n).1.length = 240 := by
  induction n with
  | zero => exact initTo_len hb (by omega)
  | succ n ih => simp [expW, ih]
def keyW (b : List UInt8) : List UInt8 := (expW b 52).1
@[simp] theorem keyW_len {b : List UInt8} (hb : b.length = 32) : (keyW b).length = 240 := expW_len hb

/-! ## a flow's blocks -/
/-- the carry goes from the last byte to the first; k bytes are done -/
def plusTo (N : List UInt8) (n : Nat) : Nat → List UInt8 × Nat
  | 0 => (N, n)
  | k + 1 => let p := plusTo N n k
    if p.2 = 0 then p else (p.1.set (15 - k) (UInt8.ofNat (p.2 + (p.1.getD (15 - k) 0).toNat)), (p.2 + (p.1.getD (15 - k) 0).toNat) / 2 ^ 8)
@[simp] theorem plusTo_len {N : List UInt8} {n k : Nat} : (plusTo N n k).1.length = N.length := by
  induction k with
  | zero => rfl
  | succ k ih => simp only [plusTo]; split <;> simp [ih]
theorem plusTo_lt {N : List UInt8} {n k : Nat} (h : n < 2 ^ 63) : (plusTo N n k).2 < 2 ^ 63 := by
  induction k with
  | zero => exact h
  | succ k ih =>
    simp only [plusTo]; split
    · exact ih
    · have := ((plusTo N n k).1.getD (15 - k) 0).toNat_lt
      simp only; omega
theorem plusTo_done {N : List UInt8} {n k : Nat} (h : (plusTo N n k).2 = 0) (m : Nat) : plusTo N n (k + m) = plusTo N n k := by
  induction m with
  | zero => rfl
  | succ m ih => rw [← Nat.add_assoc]; simp only [plusTo]; rw [ih, if_pos h]
def plus (N : List UInt8) (n : Nat) : List UInt8 := (plusTo N n 16).1
@[simp] theorem plus_len {N : List UInt8} {n : Nat} : (plus N n).length = N.length := plusTo_len
theorem plus_at {N : List UInt8} {n k : Nat} (hk : k ≤ 16) (h : (plusTo N n k).2 = 0 ∨ k = 16) : plus N n = (plusTo N n k).1 := by
  rcases h with h | rfl
  · have := plusTo_done h (16 - k)
    rw [show k + (16 - k) = 16 by omega] at this
    rw [plus, this]
  · rfl
@[simp] theorem turn_len {K V : List UInt8} (h : V.length = 16) : (turn K V).length = 16 := turnTo_len h
/-- byte i of the flow of key words K and number N -/
def flowB (K N : List UInt8) (i : Nat) : UInt8 := (turn K (plus N (i / 16))).getD (i % 16) 0
/-- bytes from place at on -/
def hideL (K N : List UInt8) (at_ : Nat) (l : List UInt8) : List UInt8 := (List.range l.length).map fun i => l.getD i 0 ^^^ flowB K N (at_ + i)
@[simp] theorem hideL_len {K N : List UInt8} {at_ : Nat} {l : List UInt8} : (hideL K N at_ l).length = l.length := by simp [hideL]
@[simp] theorem hideL_nil {K N : List UInt8} {at_ : Nat} : hideL K N at_ [] = [] := rfl
theorem hideL_snoc {K N : List UInt8} {at_ : Nat} {l : List UInt8} {x : UInt8} : hideL K N at_ (l ++ [x]) = hideL K N at_ l ++ [x ^^^ flowB K N (at_ + l.length)] := by
  simp only [hideL, List.length_append, List.length_singleton, List.range_succ, List.map_append, List.map_cons, List.map_nil]
  congr 1
  · refine List.map_congr_left fun i hi => ?_
    have : i < l.length := List.mem_range.1 hi
    simp [List.getD_eq_getElem?_getD, List.getElem?_append_left this]
  · simp [List.getD_eq_getElem?_getD]
theorem flat_succ {α : Type} {Ps : List (α × List UInt8)} {i : Nat} {p : α × List UInt8} (h : Ps[i]? = some p) : (Ps.take (i + 1)).flatMap Prod.snd = (Ps.take i).flatMap Prod.snd ++ p.2 := by
  rw [List.take_add_one, h, List.flatMap_append]; simp
theorem flat_le {α : Type} {Ps : List (α × List UInt8)} {i : Nat} {p : α × List UInt8} (h : Ps[i]? = some p) : ((Ps.take i).flatMap Prod.snd).length + p.2.length ≤ (Ps.flatMap Prod.snd).length := by
  have e : Ps.flatMap Prod.snd = (Ps.take (i + 1)).flatMap Prod.snd ++ (Ps.drop (i + 1)).flatMap Prod.snd := by rw [← List.flatMap_append, List.take_append_drop]
  rw [e, flat_succ h]; simp
end Go.Proofs.YtkkjfojgjmglpaaGreatDoor.Cip
set_option linter.unusedSimpArgs false
set_option linter.unusedVariables false
namespace Go.Proofs.YtkkjfojgjmglpaaGreatDoor.Cip
end Go.Proofs.YtkkjfojgjmglpaaGreatDoor.Cip
set_option linter.unusedSimpArgs false
set_option linter.unusedVariables false
namespace Go.Proofs.YtkkjfojgjmglpaaGreatDoor.Cip
def tmA (a b : Nat) : Nat → Nat
  | 0 => 0
  | i + 1 => bif Nat.beq (b / 2 ^ i % 2) 1 then tmA a b i ^^^ a * 2 ^ i else tmA a b i
def tmB (p : Nat) : Nat → Nat
  | 0 => p
  | k + 1 => bif Nat.beq (tmB p k / 2 ^ (14 - k) % 2) 1 then tmB p k ^^^ 283 * 2 ^ (6 - k) else tmB p k
def timesN (a b : Nat) : Nat := tmB (tmA a b 8) 7
def invTo (x : Nat) : Nat → Nat → Nat
  | 0, _ => 0
  | f + 1, y => bif Nat.beq (timesN x y) 1 then y else invTo x f (y + 1)
def invN (x : Nat) : Nat := bif Nat.beq x 0 then 0 else invTo x 255 1
def bit1 (v i : Nat) : Nat := (v / 2 ^ i ^^^ v / 2 ^ ((i + 4) % 8) ^^^ v / 2 ^ ((i + 5) % 8) ^^^ v / 2 ^ ((i + 6) % 8) ^^^ v / 2 ^ ((i + 7) % 8) ^^^ 99 / 2 ^ i) % 2
def mixN (v : Nat) : Nat → Nat
  | 0 => 0
  | i + 1 => mixN v i + bit1 v i * 2 ^ i
def boxN (x : Nat) : Nat := mixN (invN x) 8
theorem times_tw : ((List.range 256).all fun a => Nat.beq (timesN a 2) (twice8 (UInt8.ofNat a)).toNat && Nat.beq (timesN a 3) (twice8 (UInt8.ofNat a) ^^^ UInt8.ofNat a).toNat) = true := by kernel_rfl
theorem times2 (a : UInt8) : timesN a.toNat 2 = (twice8 a).toNat := by
  have h := List.all_eq_true.1 times_tw a.toNat (List.mem_range.2 a.toNat_lt)
  simp only [Bool.and_eq_true, UInt8.ofNat_toNat] at h
  exact Nat.eq_of_beq_eq_true h.1
theorem times3 (a : UInt8) : timesN a.toNat 3 = (twice8 a ^^^ a).toNat := by
  have h := List.all_eq_true.1 times_tw a.toNat (List.mem_range.2 a.toNat_lt)
  simp only [Bool.and_eq_true, UInt8.ofNat_toNat] at h
  exact Nat.eq_of_beq_eq_true h.2
theorem xor_lt {a b : Nat} (k : Nat) (ha : a < 2 ^ k) (hb : b < 2 ^ k) : a ^^^ b < 2 ^ k := Nat.xor_lt_two_pow ha hb
theorem tmA_lt {a b k : Nat} (ha : a < 256) (hk : k ≤ 8) : tmA a b k < 65536 := by
  induction k with
  | zero => simp [tmA]
  | succ k ih =>
    simp only [tmA]
    have h1 : 2 ^ k ≤ 2 ^ 7 := Nat.pow_le_pow_right (by decide) (by omega)
    have h2 : a * 2 ^ k < 65536 := by
      have : a * 2 ^ k ≤ 255 * 2 ^ 7 := Nat.mul_le_mul (by omega) h1
      omega
    cases Nat.beq (b / 2 ^ k % 2) 1 with
    | true => exact xor_lt 16 (ih (by omega)) h2
    | false => exact ih (by omega)
theorem tmB_lt {p k : Nat} (hp : p < 65536) (hk : k ≤ 7) : tmB p k < 65536 := by
  induction k with
  | zero => exact hp
  | succ k ih =>
    simp only [tmB]
    have h1 : 2 ^ (6 - k) ≤ 2 ^ 6 := Nat.pow_le_pow_right (by decide) (by omega)
    have h2 : 283 * 2 ^ (6 - k) < 65536 := by omega
    cases Nat.beq (tmB p k / 2 ^ (14 - k) % 2) 1 with
    | true => exact xor_lt 16 (ih (by omega)) h2
    | false => exact ih (by omega)
theorem tmA_on {a b k : Nat} (h : b / 2 ^ k % 2 = 1) : tmA a b (k + 1) = tmA a b k ^^^ a * 2 ^ k := by simp only [tmA]; rw [h]; rfl
theorem tmA_off {a b k : Nat} (h : ¬ b / 2 ^ k % 2 = 1) : tmA a b (k + 1) = tmA a b k := by
  simp only [tmA]; rw [show b / 2 ^ k % 2 = 0 by omega]; rfl
theorem tmB_on {p k : Nat} (h : tmB p k / 2 ^ (14 - k) % 2 = 1) : tmB p (k + 1) = tmB p k ^^^ 283 * 2 ^ (6 - k) := by simp only [tmB]; rw [h]; rfl
theorem tmB_off {p k : Nat} (h : ¬ tmB p k / 2 ^ (14 - k) % 2 = 1) : tmB p (k + 1) = tmB p k := by
  simp only [tmB]; rw [show tmB p k / 2 ^ (14 - k) % 2 = 0 by omega]; rfl
theorem mixN_lt {v i : Nat} : mixN v i < 2 ^ i := by
  induction i with
  | zero => simp [mixN]
  | succ i ih =>
    have h1 : bit1 v i ≤ 1 := by simp only [bit1]; omega
    have h2 : bit1 v i * 2 ^ i ≤ 1 * 2 ^ i := Nat.mul_le_mul_right _ h1
    rw [Nat.pow_succ]; simp only [mixN]; omega
theorem invTo_lt {x : Nat} : ∀ {f y : Nat}, f + y ≤ 256 → invTo x f y < 256
  | 0, _, _ => by simp [invTo]
  | f + 1, y, h => by
    simp only [invTo]
    cases Nat.beq (timesN x y) 1 with
    | true => show y < 256; omega
    | false => exact invTo_lt (f := f) (y := y + 1) (by omega)
theorem invN_lt {x : Nat} : invN x < 256 := by
  unfold invN
  cases Nat.beq x 0 with
  | true => show 0 < 256; decide
  | false => exact invTo_lt (by omega)
end Go.Proofs.YtkkjfojgjmglpaaGreatDoor.Cip
set_option linter.unusedSimpArgs false
set_option linter.unusedVariables false
namespace Go.Proofs.YtkkjfojgjmglpaaGreatDoor.Cip
theorem getD_set_self {l : List UInt8} {i : Nat} {v : UInt8} (h : i < l.length) : (l.set i v).getD i 0 = v := by rw [List.getD_eq_getElem?_getD, List.getElem?_set_self h]; rfl
theorem getD_set_ne {l : List UInt8} {i j : Nat} {v : UInt8} (h : i ≠ j) : (l.set i v).getD j 0 = l.getD j 0 := by rw [List.getD_eq_getElem?_getD, List.getElem?_set_ne h, ← List.getD_eq_getElem?_getD]
theorem getD_take {l : List UInt8} {n j : Nat} (h : j < n) : (l.take n).getD j 0 = l.getD j 0 := by rw [List.getD_eq_getElem?_getD, List.getElem?_take, if_pos h, ← List.getD_eq_getElem?_getD]
theorem getD_drop {l : List UInt8} {n j : Nat} : (l.drop n).getD j 0 = l.getD (n + j) 0 := by rw [List.getD_eq_getElem?_getD, List.getElem?_drop, ← List.getD_eq_getElem?_getD]
theorem word_at {W : List UInt8} {i j : Nat} (hj : j < 4) : (word W i).getD j 0 = W.getD (i * 4 + j) 0 := by rw [word, getD_take hj, getD_drop]
theorem subTo_at {T : List UInt8} {j m : Nat} (hm : m < T.length) : (subTo T j).getD m 0 = if m < j then sbox (T.getD m 0) else T.getD m 0 := by
  induction j with
  | zero => simp [subTo]
  | succ j ih =>
    simp only [subTo]
    by_cases e : m = j
    · subst e
      rw [getD_set_self (by simpa using hm), if_pos (by omega), ih, if_neg (by omega)]
    · rw [getD_set_ne (fun h => e h.symm), ih]
      by_cases h : m < j
      · rw [if_pos h, if_pos (by omega)]
      · rw [if_neg h, if_neg (by omega)]
theorem tv_at0 {W : List UInt8} {n j : Nat} {con : UInt8} (h : n % 8 = 0) (hj : j < 4) (hj0 : j ≠ 0) : (tv W n con).getD j 0 = sbox (W.getD ((n + 7) * 4 + (j + 1) % 4) 0) := by
  simp only [tv]; rw [if_pos h]
  simp only [tvA, word_at (show 1 < 4 by decide), word_at (show 2 < 4 by decide), word_at (show 3 < 4 by decide), word_at (show 0 < 4 by decide)]
  match j, hj, hj0 with
  | 1, _, _ => rfl
  | 2, _, _ => rfl
  | 3, _, _ => rfl
theorem tv_at00 {W : List UInt8} {n : Nat} {con : UInt8} (h : n % 8 = 0) : (tv W n con).getD 0 0 = sbox (W.getD ((n + 7) * 4 + 1) 0) ^^^ con := by
  simp only [tv]; rw [if_pos h]
  simp only [tvA, word_at (show 1 < 4 by decide)]; rfl
theorem tv_at4 {W : List UInt8} {n j : Nat} {con : UInt8} (h0 : ¬ n % 8 = 0) (h : n % 8 = 4) (hj : j < 4) (hn : n < 52) (hW : W.length = 240) : (tv W n con).getD j 0 = sbox (W.getD ((n + 7) * 4 + j) 0) := by
  simp only [tv]; rw [if_neg h0, if_pos h, subTo_at (by rw [word_len hW (by omega)]; exact hj), if_pos hj, word_at hj]
theorem tv_atx {W : List UInt8} {n j : Nat} {con : UInt8} (h0 : ¬ n % 8 = 0) (h : ¬ n % 8 = 4) (hj : j < 4) : (tv W n con).getD j 0 = W.getD ((n + 7) * 4 + j) 0 := by
  simp only [tv]; rw [if_neg h0, if_neg h, word_at hj]
theorem putTo_low {W T : List UInt8} {n j m : Nat} (h : m < (n + 8) * 4) : (putTo W n T j).getD m 0 = W.getD m 0 := by
  induction j with
  | zero => rfl
  | succ j ih => simp only [putTo]; rw [getD_set_ne (by omega), ih]
/-- the round keys while word i is made, j bytes of it done -/
def inW (b : List UInt8) (i j : Nat) : List UInt8 :=
  if i < 8 then b.take (i * 4 + j) ++ List.replicate (240 - (i * 4 + j)) 0 else putTo (expW b (i - 8)).1 (i - 8) (tv (expW b (i - 8)).1 (i - 8) (expW b (i - 8)).2) j
def refW (b : List UInt8) (i : Nat) : List UInt8 × UInt8 := if i ≤ 8 then (initTo b i, 1) else expW b (i - 8)
theorem refW_lo {b : List UInt8} {i : Nat} (h : i ≤ 8) : refW b i = (initTo b i, 1) := if_pos h
theorem refW_hi {b : List UInt8} {n : Nat} : refW b (n + 8) = expW b n := by
  unfold refW
  split
  · have : n = 0 := by omega
    subst this; rfl
  · rw [Nat.add_sub_cancel]
theorem inW_hi {b : List UInt8} {n j : Nat} : inW b (n + 8) j = putTo (expW b n).1 n (tv (expW b n).1 n (expW b n).2) j := by
  unfold inW; rw [if_neg (by omega), Nat.add_sub_cancel]
theorem inW_lo {b : List UInt8} {i j : Nat} (h : i < 8) : inW b i j = b.take (i * 4 + j) ++ List.replicate (240 - (i * 4 + j)) 0 := if_pos h
theorem inW_zero {b : List UInt8} {i : Nat} : inW b i 0 = (refW b i).1 := by
  rcases Nat.lt_or_ge i 8 with h | h
  · rw [inW_lo h, refW_lo (by omega)]; rfl
  · obtain ⟨n, rfl⟩ : ∃ n, i = n + 8 := ⟨i - 8, by omega⟩
    rw [inW_hi, refW_hi]; rfl
theorem inW_four {b : List UInt8} {i : Nat} : inW b i 4 = (refW b (i + 1)).1 := by
  rcases Nat.lt_or_ge i 8 with h | h
  · rw [inW_lo h, refW_lo (by omega), show i * 4 + 4 = (i + 1) * 4 by omega]; rfl
  · obtain ⟨n, rfl⟩ : ∃ n, i = n + 8 := ⟨i - 8, by omega⟩
    rw [inW_hi, show n + 8 + 1 = (n + 1) + 8 by omega, refW_hi]; rfl
theorem inW_len {b : List UInt8} {i j : Nat} (hb : b.length = 32) (hj : j ≤ 4) : (inW b i j).length = 240 := by
  rcases Nat.lt_or_ge i 8 with h | h
  · rw [inW_lo h]; simp; omega
  · obtain ⟨n, rfl⟩ : ∃ n, i = n + 8 := ⟨i - 8, by omega⟩
    rw [inW_hi]; simp [hb]
theorem inW_lo_succ {b : List UInt8} {i j : Nat} (hb : b.length = 32) (h : i < 8) (hj : j < 4) : inW b i (j + 1) = (inW b i j).set (i * 4 + j) (b.getD (i * 4 + j) 0) := by
  rw [inW_lo h, inW_lo h]
  have e1 : b.take (i * 4 + (j + 1)) = b.take (i * 4 + j) ++ [b.getD (i * 4 + j) 0] := by
    rw [← Nat.add_assoc, List.take_add_one, List.getElem?_eq_getElem (by omega), List.getD_eq_getElem?_getD, List.getElem?_eq_getElem (by omega)]; rfl
  have e2 : List.replicate (240 - (i * 4 + j)) (0 : UInt8) = 0 :: List.replicate (240 - (i * 4 + (j + 1))) 0 := by
    rw [show 240 - (i * 4 + j) = (240 - (i * 4 + (j + 1))) + 1 by omega]; rfl
  have hl : (b.take (i * 4 + j)).length = i * 4 + j := by simp; omega
  rw [e1, e2, List.set_append_right _ _ (by omega), hl]
  simp
theorem inW_hi_succ {b : List UInt8} {n j : Nat} : inW b (n + 8) (j + 1) = (inW b (n + 8) j).set ((n + 8) * 4 + j) ((inW b (n + 8) j).getD (n * 4 + j) 0 ^^^ (tv (expW b n).1 n (expW b n).2).getD j 0) := by
  rw [inW_hi, inW_hi]; rfl
theorem inW_low {b : List UInt8} {n j m : Nat} (h : m < (n + 8) * 4) : (inW b (n + 8) j).getD m 0 = (expW b n).1.getD m 0 := by rw [inW_hi, putTo_low h]
theorem ref0 {b : List UInt8} : refW b 0 = (List.replicate 240 0, 1) := by rw [refW_lo (by omega)]; simp [initTo]
theorem ref60 {b : List UInt8} : (refW b 60).1 = keyW b := by rw [show 60 = 52 + 8 from rfl, refW_hi]; rfl
def conS : Nat → UInt8
  | 0 => 1
  | n + 1 => conN (conS n) n
theorem exp_con {b : List UInt8} {n : Nat} : (expW b n).2 = conS n := by
  induction n with
  | zero => rfl
  | succ n ih => simp only [expW, conS, ih]
theorem conS_all : ((List.range 52).all fun n => !(Nat.beq (n % 8) 0) || Nat.beq (timesN (conS n).toNat 2) (conS (n + 1)).toNat) = true := by kernel_rfl
theorem con_twice {b : List UInt8} {n : Nat} (hn : n < 52) (h : n % 8 = 0) : timesN (expW b n).2.toNat 2 = (expW b (n + 1)).2.toNat := by
  rw [exp_con, exp_con]
  have := List.all_eq_true.1 conS_all n (List.mem_range.2 hn)
  rw [h] at this
  exact Nat.eq_of_beq_eq_true (by simpa using this)
theorem con_same {b : List UInt8} {n : Nat} (h : ¬ n % 8 = 0) : (expW b (n + 1)).2 = (expW b n).2 := by
  rw [exp_con, exp_con]; simp only [conS, conN]; rw [if_neg h]
theorem sbox_at (u : UInt8) : fwd[u.toNat]? = some (sbox u) := by
  have := u.toNat_lt
  rw [List.getElem?_eq_getElem (by rw [fwd_len]; omega), sbox, List.getD_eq_getElem?_getD, List.getElem?_eq_getElem (by rw [fwd_len]; omega)]; rfl
end Go.Proofs.YtkkjfojgjmglpaaGreatDoor.Cip
set_option linter.unusedSimpArgs false
set_option linter.unusedVariables false
namespace Go.Proofs.YtkkjfojgjmglpaaGreatDoor.Cip
def tw (n : Nat) : Nat := bif Nat.ble 128 n then (n * 2 - 256) ^^^ 27 else n * 2
theorem tw_all : ((List.range 256).all fun a => Nat.beq (twice8 (UInt8.ofNat a)).toNat (tw a)) = true := by kernel_rfl
theorem tw_lin : ((List.range 256).all fun a => (List.range 256).all fun b => Nat.beq (tw (a ^^^ b)) (tw a ^^^ tw b)) = true := by kernel_rfl
theorem twice_tw (a : UInt8) : (twice8 a).toNat = tw a.toNat := by
  have h := List.all_eq_true.1 tw_all a.toNat (List.mem_range.2 a.toNat_lt)
  simp only [UInt8.ofNat_toNat] at h
  exact Nat.eq_of_beq_eq_true h
theorem twice_xor (a b : UInt8) : twice8 (a ^^^ b) = twice8 a ^^^ twice8 b := by
  apply UInt8.toNat_inj.1
  rw [UInt8.toNat_xor, twice_tw, twice_tw, twice_tw, UInt8.toNat_xor]
  exact Nat.eq_of_beq_eq_true (List.all_eq_true.1 (List.all_eq_true.1 tw_lin a.toNat (List.mem_range.2 a.toNat_lt)) b.toNat (List.mem_range.2 b.toNat_lt))
theorem xc (x y : UInt8) : x ^^^ (x ^^^ y) = y := by rw [← UInt8.xor_assoc, UInt8.xor_self, UInt8.zero_xor]
theorem xlc (x y z : UInt8) : x ^^^ (y ^^^ z) = y ^^^ (x ^^^ z) := by rw [← UInt8.xor_assoc, UInt8.xor_comm x y, UInt8.xor_assoc]
theorem mixb (a b d e : UInt8) : a ^^^ (a ^^^ b ^^^ d ^^^ e ^^^ twice8 (a ^^^ b)) = twice8 a ^^^ (twice8 b ^^^ b) ^^^ d ^^^ e := by
  rw [twice_xor]; simp only [UInt8.xor_assoc, xc]
  generalize twice8 a = p; generalize twice8 b = q
  simp only [UInt8.xor_assoc, UInt8.xor_comm, xlc]
/-- the reference's mixing: byte i -/
def mxb (U : List UInt8) (i : Nat) : UInt8 :=
  let c := i / 4 * 4; let r := i % 4
  twice8 (U.getD (c + r) 0) ^^^ (twice8 (U.getD (c + (r + 1) % 4) 0) ^^^ U.getD (c + (r + 1) % 4) 0) ^^^ U.getD (c + (r + 2) % 4) 0 ^^^ U.getD (c + (r + 3) % 4) 0
def mxTo (U : List UInt8) : Nat → List UInt8
  | 0 => U
  | k + 1 => (mxTo U k).set k (mxb U k)
@[simp] theorem mxTo_len {U : List UInt8} {k : Nat} : (mxTo U k).length = U.length := by
  induction k with
  | zero => rfl
  | succ k ih => simp [mxTo, ih]
def adTo (K : List UInt8) (r : Nat) (T S : List UInt8) : Nat → List UInt8
  | 0 => S
  | k + 1 => (adTo K r T S k).set k (T.getD k 0 ^^^ K.getD (16 * r + k) 0)
@[simp] theorem adTo_len {K T S : List UInt8} {r k : Nat} : (adTo K r T S k).length = S.length := by
  induction k with
  | zero => rfl
  | succ k ih => simp [adTo, ih]
theorem adTo_at {K T S : List UInt8} {r k m : Nat} (hm : m < S.length) : (adTo K r T S k).getD m 0 = if m < k then T.getD m 0 ^^^ K.getD (16 * r + m) 0 else S.getD m 0 := by
  induction k with
  | zero => simp [adTo]
  | succ k ih =>
    simp only [adTo]
    by_cases e : m = k
    · subst e; rw [getD_set_self (by simpa using hm), if_pos (by omega)]
    · rw [getD_set_ne (fun h => e h.symm), ih]
      by_cases h : m < k
      · rw [if_pos h, if_pos (by omega)]
      · rw [if_neg h, if_neg (by omega)]
theorem addTo_at {K V : List UInt8} {r k m : Nat} (hm : m < V.length) : (addTo K r V k).getD m 0 = if m < k then V.getD m 0 ^^^ K.getD (16 * r + m) 0 else V.getD m 0 := by
  induction k with
  | zero => simp [addTo]
  | succ k ih =>
    simp only [addTo]
    by_cases e : m = k
    · subst e; rw [getD_set_self (by simpa using hm), if_pos (by omega), ih, if_neg (by omega)]
    · rw [getD_set_ne (fun h => e h.symm), ih]
      by_cases h : m < k
      · rw [if_pos h, if_pos (by omega)]
      · rw [if_neg h, if_neg (by omega)]
theorem ext_getD {l m : List UInt8} (h : l.length = m.length) (hg : ∀ i, i < l.length → l.getD i 0 = m.getD i 0) : l = m := by
  apply List.ext_getElem h
  intro i h1 h2
  have := hg i h1
  rw [List.getD_eq_getElem?_getD, List.getD_eq_getElem?_getD, List.getElem?_eq_getElem h1, List.getElem?_eq_getElem h2] at this
  exact this
theorem ad_eq {K T S : List UInt8} {r : Nat} (hT : T.length = 16) (hS : S.length = 16) : adTo K r T S 16 = addTo K r T 16 := by
  apply ext_getD (by simp [hT, hS])
  intro i hi
  rw [adTo_len] at hi
  rw [adTo_at hi, addTo_at (by omega), if_pos (by omega), if_pos (by omega)]
theorem list16' {l : List UInt8} (h : l.length = 16) : ∃ a0 a1 a2 a3 a4 a5 a6 a7 a8 a9 a10 a11 a12 a13 a14 a15, l = [a0, a1, a2, a3, a4, a5, a6, a7, a8, a9, a10, a11, a12, a13, a14, a15] := by
  match l, h with
  | [a0, a1, a2, a3, a4, a5, a6, a7, a8, a9, a10, a11, a12, a13, a14, a15], _ => exact ⟨a0, a1, a2, a3, a4, a5, a6, a7, a8, a9, a10, a11, a12, a13, a14, a15, rfl⟩
theorem mixb1 (a b d e : UInt8) : b ^^^ (a ^^^ b ^^^ d ^^^ e ^^^ twice8 (b ^^^ d)) = twice8 b ^^^ (twice8 d ^^^ d) ^^^ e ^^^ a := by
  rw [← mixb b d e a]; congr 2; simp only [UInt8.xor_assoc, UInt8.xor_comm, xlc]
theorem mixb2 (a b d e : UInt8) : d ^^^ (a ^^^ b ^^^ d ^^^ e ^^^ twice8 (d ^^^ e)) = twice8 d ^^^ (twice8 e ^^^ e) ^^^ a ^^^ b := by
  rw [← mixb d e a b]; congr 2; simp only [UInt8.xor_assoc, UInt8.xor_comm, xlc]
theorem mixb3 (a b d e : UInt8) : e ^^^ (a ^^^ b ^^^ d ^^^ e ^^^ twice8 (e ^^^ a)) = twice8 e ^^^ (twice8 a ^^^ a) ^^^ b ^^^ d := by
  rw [← mixb e a b d]; congr 2; simp only [UInt8.xor_assoc, UInt8.xor_comm, xlc]
theorem mx_eq {U : List UInt8} (h : U.length = 16) : mxTo U 16 = mixTo U 4 := by
  obtain ⟨a0, a1, a2, a3, a4, a5, a6, a7, a8, a9, a10, a11, a12, a13, a14, a15, rfl⟩ := list16' h
  have e1 : mxTo [a0, a1, a2, a3, a4, a5, a6, a7, a8, a9, a10, a11, a12, a13, a14, a15] 16 =
    [twice8 a0 ^^^ (twice8 a1 ^^^ a1) ^^^ a2 ^^^ a3, twice8 a1 ^^^ (twice8 a2 ^^^ a2) ^^^ a3 ^^^ a0, twice8 a2 ^^^ (twice8 a3 ^^^ a3) ^^^ a0 ^^^ a1, twice8 a3 ^^^ (twice8 a0 ^^^ a0) ^^^ a1 ^^^ a2,
     twice8 a4 ^^^ (twice8 a5 ^^^ a5) ^^^ a6 ^^^ a7, twice8 a5 ^^^ (twice8 a6 ^^^ a6) ^^^ a7 ^^^ a4, twice8 a6 ^^^ (twice8 a7 ^^^ a7) ^^^ a4 ^^^ a5, twice8 a7 ^^^ (twice8 a4 ^^^ a4) ^^^ a5 ^^^ a6,
     twice8 a8 ^^^ (twice8 a9 ^^^ a9) ^^^ a10 ^^^ a11, twice8 a9 ^^^ (twice8 a10 ^^^ a10) ^^^ a11 ^^^ a8, twice8 a10 ^^^ (twice8 a11 ^^^ a11) ^^^ a8 ^^^ a9, twice8 a11 ^^^ (twice8 a8 ^^^ a8) ^^^ a9 ^^^ a10,
     twice8 a12 ^^^ (twice8 a13 ^^^ a13) ^^^ a14 ^^^ a15, twice8 a13 ^^^ (twice8 a14 ^^^ a14) ^^^ a15 ^^^ a12, twice8 a14 ^^^ (twice8 a15 ^^^ a15) ^^^ a12 ^^^ a13, twice8 a15 ^^^ (twice8 a12 ^^^ a12) ^^^ a13 ^^^ a14] := by kernel_rfl
  have e2 : mixTo [a0, a1, a2, a3, a4, a5, a6, a7, a8, a9, a10, a11, a12, a13, a14, a15] 4 =
    [a0 ^^^ (a0 ^^^ a1 ^^^ a2 ^^^ a3 ^^^ twice8 (a0 ^^^ a1)), a1 ^^^ (a0 ^^^ a1 ^^^ a2 ^^^ a3 ^^^ twice8 (a1 ^^^ a2)), a2 ^^^ (a0 ^^^ a1 ^^^ a2 ^^^ a3 ^^^ twice8 (a2 ^^^ a3)), a3 ^^^ (a0 ^^^ a1 ^^^ a2 ^^^ a3 ^^^ twice8 (a3 ^^^ a0)),
     a4 ^^^ (a4 ^^^ a5 ^^^ a6 ^^^ a7 ^^^ twice8 (a4 ^^^ a5)), a5 ^^^ (a4 ^^^ a5 ^^^ a6 ^^^ a7 ^^^ twice8 (a5 ^^^ a6)), a6 ^^^ (a4 ^^^ a5 ^^^ a6 ^^^ a7 ^^^ twice8 (a6 ^^^ a7)), a7 ^^^ (a4 ^^^ a5 ^^^ a6 ^^^ a7 ^^^ twice8 (a7 ^^^ a4)),
     a8 ^^^ (a8 ^^^ a9 ^^^ a10 ^^^ a11 ^^^ twice8 (a8 ^^^ a9)), a9 ^^^ (a8 ^^^ a9 ^^^ a10 ^^^ a11 ^^^ twice8 (a9 ^^^ a10)), a10 ^^^ (a8 ^^^ a9 ^^^ a10 ^^^ a11 ^^^ twice8 (a10 ^^^ a11)), a11 ^^^ (a8 ^^^ a9 ^^^ a10 ^^^ a11 ^^^ twice8 (a11 ^^^ a8)),
     a12 ^^^ (a12 ^^^ a13 ^^^ a14 ^^^ a15 ^^^ twice8 (a12 ^^^ a13)), a13 ^^^ (a12 ^^^ a13 ^^^ a14 ^^^ a15 ^^^ twice8 (a13 ^^^ a14)), a14 ^^^ (a12 ^^^ a13 ^^^ a14 ^^^ a15 ^^^ twice8 (a14 ^^^ a15)), a15 ^^^ (a12 ^^^ a13 ^^^ a14 ^^^ a15 ^^^ twice8 (a15 ^^^ a12))] := by kernel_rfl
  rw [e1, e2]; simp only [mixb, mixb1, mixb2, mixb3]
/-- the reference's rounds -/
def rfTo (K V : List UInt8) : Nat → List UInt8
  | 0 => addTo K 0 V 16
  | r + 1 => adTo K (r + 1) (if r + 1 < 14 then mxTo (shTo (rfTo K V r) 16) 16 else shTo (rfTo K V r) 16) (rfTo K V r) 16
theorem rf_eq {K V : List UInt8} (hV : V.length = 16) : ∀ r, rfTo K V r = turnTo K V r
  | 0 => rfl
  | r + 1 => by
    have ih := rf_eq (K := K) hV r
    have hl : (turnTo K V r).length = 16 := turnTo_len hV
    simp only [rfTo, turnTo, ih]
    rw [ad_eq (by split <;> simp) hl, mx_eq (by simp)]
theorem rf14 {K V : List UInt8} (hV : V.length = 16) : rfTo K V 14 = turn K V := rf_eq hV 14
theorem rf_len {K V : List UInt8} (hV : V.length = 16) (r : Nat) : (rfTo K V r).length = 16 := by rw [rf_eq hV]; exact turnTo_len hV
end Go.Proofs.YtkkjfojgjmglpaaGreatDoor.Cip
set_option linter.unusedSimpArgs false
set_option linter.unusedVariables false
namespace Go.Proofs.YtkkjfojgjmglpaaGreatDoor.Cip
end Go.Proofs.YtkkjfojgjmglpaaGreatDoor.Cip
set_option linter.unusedSimpArgs false
set_option linter.unusedVariables false
namespace Go.Proofs.YtkkjfojgjmglpaaGreatDoor
def hidL (hk N l : List UInt8) : List UInt8 := Cip.hideL (Cip.keyW hk) N 0 l
@[simp] theorem hidL_len {hk N l : List UInt8} : (hidL hk N l).length = l.length := by simp [hidL]
theorem hidL_def {hk N l : List UInt8} : Cip.hideL (Cip.keyW hk) N 0 l = hidL hk N l := rfl
def markL (mk : List UInt8) (kind : UInt8) (name N h : List UInt8) : List UInt8 := keyedL mk ([kind, UInt8.ofNat name.length] ++ name ++ N ++ h)
@[simp] theorem markL_len {mk name N h : List UInt8} {kind : UInt8} : (markL mk kind name N h).length = 32 := by simp [markL]
theorem markL_def {mk name N h : List UInt8} {kind : UInt8} : keyedL mk ([kind, UInt8.ofNat name.length] ++ name ++ N ++ h) = markL mk kind name N h := rfl
def sealL (hk mk : List UInt8) (kind : UInt8) (name N l : List UInt8) : List UInt8 := N ++ hidL hk N l ++ markL mk kind name N (hidL hk N l)
theorem sealL_def {hk mk : List UInt8} {kind : UInt8} {name N l : List UInt8} : N ++ hidL hk N l ++ markL mk kind name N (hidL hk N l) = sealL hk mk kind name N l := rfl
theorem sealL_len {hk mk name N l : List UInt8} {kind : UInt8} (hN : N.length = 16) : (sealL hk mk kind name N l).length = l.length + 48 := by simp [sealL, hN]; omega
def sealF (hk mk : List UInt8) (kind : UInt8) (name N l : List UInt8) : List UInt8 × Nat :=
  if 255 < name.length then ([], 5) else if 1048576 < l.length then ([], 4) else (sealL hk mk kind name N l, 0)
theorem sealF_name {hk mk name N l : List UInt8} {kind : UInt8} (h : 255 < name.length) : sealF hk mk kind name N l = ([], 5) := by rw [sealF, if_pos h]
theorem sealF_big {hk mk name N l : List UInt8} {kind : UInt8} (h : ¬ 255 < name.length) (h2 : 1048576 < l.length) : sealF hk mk kind name N l = ([], 4) := by rw [sealF, if_neg h, if_pos h2]
theorem sealF_ok {hk mk name N l : List UInt8} {kind : UInt8} (h : ¬ 255 < name.length) (h2 : ¬ 1048576 < l.length) : sealF hk mk kind name N l = (sealL hk mk kind name N l, 0) := by rw [sealF, if_neg h, if_neg h2]
end Go.Proofs.YtkkjfojgjmglpaaGreatDoor
set_option linter.unusedSimpArgs false
set_option linter.unusedVariables false
namespace Go.Proofs.YtkkjfojgjmglpaaGreatDoor
open Go
/-- a, its first j bytes crossed with b's -/
def xz (a b : List UInt8) (j : Nat) : List UInt8 := (List.range 32).map fun i => if i < j then a.getD i 0 ^^^ b.getD i 0 else a.getD i 0
@[simp] theorem xz_len {a b : List UInt8} {j : Nat} : (xz a b j).length = 32 := by simp [xz]
/-- the stretched word -/
def strL (w s : List UInt8) : Nat → List UInt8
  | 0 => keyedL w s
  | n + 1 => xz (strL w s n) (keyedL w (strL w s n)) 32
@[simp] theorem strL_len {w s : List UInt8} {n : Nat} : (strL w s n).length = 32 := by cases n <;> simp [strL]
/-- byte j of a number, the greatest first -/
def beB (n j : Nat) : UInt8 := UInt8.ofNat (n / 2 ^ (56 - 8 * j))
def bej (n j : Nat) : List UInt8 := (List.range j).map (beB n)
theorem bej_0 {n : Nat} : bej n 0 = [] := rfl
theorem bej_snoc {n j : Nat} : bej n j ++ [beB n j] = bej n (j + 1) := by simp [bej, List.range_succ]
@[simp] theorem bej_len {n j : Nat} : (bej n j).length = j := by simp [bej]
def be8 (n : Nat) : List UInt8 := bej n 8
theorem be8_def {n : Nat} : bej n 8 = be8 n := rfl
@[simp] theorem be8_len {n : Nat} : (be8 n).length = 8 := bej_len
/-- the first c blocks of a tape that begins with b -/
def tapeL (b : List UInt8) : Nat → List UInt8
  | 0 => []
  | c + 1 => tapeL b c ++ sumL (b ++ be8 c)
@[simp] theorem tapeL_len {b : List UInt8} : ∀ {c : Nat}, (tapeL b c).length = 32 * c
  | 0 => rfl
  | c + 1 => by rw [tapeL, List.length_append, tapeL_len, sumL_len]; omega
theorem tapeL_0 {b : List UInt8} : tapeL b 0 = [] := rfl
theorem tapeL_succ {b : List UInt8} {c : Nat} : tapeL b c ++ sumL (b ++ be8 c) = tapeL b (c + 1) := rfl
theorem tapeL_pre {b : List UInt8} {c : Nat} : ∀ d, tapeL b c <+: tapeL b (c + d)
  | 0 => List.prefix_refl _
  | d + 1 => (tapeL_pre d).trans ⟨_, tapeL_succ⟩
/-- n bytes of the tape, from its byte p on -/
def tapeN (b : List UInt8) (p n : Nat) : List UInt8 := ((tapeL b (p + n)).drop p).take n
theorem tapeN_eq {b : List UInt8} {c p n : Nat} (h : p + n ≤ 32 * c) : ((tapeL b c).drop p).take n = tapeN b p n := by
  have e : ∀ {x y : List UInt8}, x <+: y → p + n ≤ x.length → (x.drop p).take n = (y.drop p).take n := by
    rintro x y ⟨z, rfl⟩ hx
    rw [List.drop_append_of_le_length (by omega), List.take_append_of_le_length (by simp; omega)]
  unfold tapeN
  rcases Nat.le_total c (p + n) with h1 | h1
  · obtain ⟨d, hd⟩ := Nat.exists_eq_add_of_le h1
    rw [hd]; exact e (tapeL_pre d) (by simpa using h)
  · obtain ⟨d, hd⟩ := Nat.exists_eq_add_of_le h1
    have h2 := e (tapeL_pre (b := b) (c := p + n) d) (by simp; omega)
    rw [hd]; exact h2.symm
@[simp] theorem tapeN_len {b : List UInt8} {p n : Nat} : (tapeN b p n).length = n := by simp [tapeN]; omega
/-- what is left of the tape's blocks from p on grows by a block -/
theorem tape_more {b : List UInt8} {c p : Nat} (h : p ≤ 32 * c) : (tapeL b c).drop p ++ sumL (b ++ be8 c) = (tapeL b (c + 1)).drop p := by
  rw [← tapeL_succ, List.drop_append_of_le_length (by simpa using h)]
end Go.Proofs.YtkkjfojgjmglpaaGreatDoor
set_option linter.unusedSimpArgs false
set_option linter.unusedVariables false
namespace Go.Proofs.YtkkjfojgjmglpaaGreatDoor
open Go
def digL : List UInt8 := [48, 49, 50, 51, 52, 53, 54, 55, 56, 57, 97, 98, 99, 100, 101, 102]
def hexL (l : List UInt8) : List UInt8 := l.flatMap fun x => [digL.getD (x.toNat / 16) 0, digL.getD (x.toNat % 16) 0]
@[simp] theorem hexL_len {l : List UInt8} : (hexL l).length = 2 * l.length := by
  induction l with
  | nil => rfl
  | cons x l ih => simp only [hexL, List.flatMap_cons, List.length_append, List.length_cons, List.length_nil] at ih ⊢; omega
theorem hexL_0 {l : List UInt8} : hexL (l.take 0) = [] := rfl
theorem hexL_take {l : List UInt8} {i : Nat} (h : i < l.length) : hexL (l.take i) ++ [digL.getD ((l.getD i 0).toNat / 16) 0, digL.getD ((l.getD i 0).toNat % 16) 0] = hexL (l.take (i + 1)) := by
  have e : l.getD i 0 = l[i] := by rw [List.getD_eq_getElem?_getD, List.getElem?_eq_getElem h]; rfl
  rw [e, List.take_add_one, List.getElem?_eq_getElem h]
  simp only [hexL, List.flatMap_append, Option.toList, List.flatMap_cons, List.flatMap_nil, List.append_nil]
def numL (n : Nat) : List UInt8 := if n < 128 then [UInt8.ofNat n] else UInt8.ofNat (n % 128 + 128) :: numL (n / 128)
termination_by n
theorem numL_lt {n : Nat} (h : n < 128) : numL n = [UInt8.ofNat n] := by rw [numL, if_pos h]
theorem numL_ge {n : Nat} (h : ¬ n < 128) : numL n = UInt8.ofNat (n % 128 + 128) :: numL (n / 128) := by rw [numL, if_neg h]
theorem numL_len : ∀ (k : Nat) {n : Nat}, n < 128 ^ (k + 1) → (numL n).length ≤ k + 1
  | 0, n, h => by rw [numL_lt (by simpa using h)]; simp
  | k + 1, n, h => by
    by_cases h1 : n < 128
    · rw [numL_lt h1]; simp
    · rw [numL_ge h1, List.length_cons]
      have : n / 128 < 128 ^ (k + 1) := by rw [Nat.div_lt_iff_lt_mul (by decide)]; rw [Nat.pow_succ] at h; exact h
      have := numL_len k this; omega
/-- what is written, what is left -/
theorem numL_step {a : List UInt8} {n : Nat} (h : ¬ n < 128) : (a ++ [UInt8.ofNat n ||| 128]) ++ numL (n / 128) = a ++ numL n := by
  have e : UInt8.ofNat n ||| 128 = UInt8.ofNat (n % 128 + 128) := by
    apply UInt8.toNat_inj.1
    rw [UInt8.toNat_or, UInt8.toNat_ofNat', UInt8.toNat_ofNat']
    rw [show n % 2 ^ 8 = n % 256 by rfl, show (n % 128 + 128) % 2 ^ 8 = n % 128 + 128 by omega]
    have h2 : n % 128 = n % 256 % 128 := by omega
    rw [h2]
    have h3 : n % 256 < 256 := by omega
    generalize n % 256 = m at h3
    have : ∀ m, m < 256 → m ||| (128 : UInt8).toNat = m % 128 + 128 := by decide +kernel
    exact this m h3
  rw [numL_ge h, e]; simp
/-- a blob of a pack -/
structure Ent where
  id : List UInt8
  kind : Nat
  off : Nat
  len : Nat
  h : id.length = 32
deriving DecidableEq
theorem mapB_inj {l m : List UInt8} (h : l.map B = m.map B) : l = m := List.map_inj_right (fun a b hab => by
  have h3 : (a.toNat : Int) = b.toNat := by simpa [B] using hab
  exact UInt8.toNat.inj (by omega)) |>.1 h
structure WSt where
  b : List UInt8
  l : List Ent
  p : Nat
def idF (nk : List UInt8) (kind : UInt8) (b : List UInt8) : List UInt8 := keyedL nk (kind :: b)
@[simp] theorem idF_len {nk b : List UInt8} {kind : UInt8} : (idF nk kind b).length = 32 := by simp [idF]
def nameL (b : List UInt8) : List UInt8 := [112, 47] ++ (hexL (sumL b)).take 40
@[simp] theorem nameL_len {b : List UInt8} : (nameL b).length = 42 := by simp [nameL]
/-- a writer's state is in order -/
structure WOk (s : WSt) : Prop where
  n : s.l.length ≤ 1000
  b : s.b.length ≤ 900000
  each : ∀ e ∈ s.l, 1 ≤ e.kind ∧ e.kind ≤ 2 ∧ e.off < 1048576 ∧ 48 ≤ e.len ∧ e.len < 1048576
structure Ring3 where
  h : List UInt8
  m : List UInt8
  n : List UInt8
structure ROk (r : Ring3) : Prop where
  h : r.h.length = 32
  m : r.m.length = 32
  n : r.n.length = 32
section
variable {r : Ring3} {bg : List UInt8} {s : WSt} {kind : Int} {b : List UInt8}
end
end Go.Proofs.YtkkjfojgjmglpaaGreatDoor
set_option linter.unusedSimpArgs false
set_option linter.unusedVariables false
/- Owned slices of wider elements: read by index, appended to, made of a literal. Own work for this project; no program in sight. -/
namespace Go.Proofs.YtkkjfojgjmglpaaGreatDoor
open Go Go.RowKit
abbrev ownA {α : Type} (f : α → List Value) (k : Nat) (v : Value) (l : List α) (T : TypeId) : Res := own v l.length (l.flatMap f) T k
theorem ownA_cast {α : Type} {f : α → List Value} {k : Nat} {v : Value} {l m : List α} {T : TypeId} (h : l = m) : ownA f k v l T = ownA f k v m T := by rw [h]
/-- the cells of a slice of n elements can be read -/
def RdC (w : World) (v : Value) (n : Nat) (xs : List Value) : Prop := (v = .slice none 0 0 ∧ n = 0 ∧ xs = []) ∨ ∃ ad cap, v = .slice (some ad) n cap ∧ n ≤ cap ∧ ∀ j u, xs[j]? = some u → w.cell? (ad.add j) = some u
theorem own_rdC {w : World} {v : Value} {n k : Nat} {xs : List Value} {T : TypeId} (h : (own v n xs T k).holds w) : RdC w v n xs := by
  rcases own_cells h with ⟨rfl, rfl, rfl⟩ | ⟨g, o, cap, rfl, hc, _, hr⟩
  · exact .inl ⟨rfl, rfl, rfl⟩
  · exact .inr ⟨⟨g, o, none⟩, cap, rfl, hc, fun j u hj => by rw [add_w]; exact hr j u hj⟩
theorem RdC.cell {w : World} {v : Value} {n : Nat} {xs : List Value} (h : RdC w v n xs) {j : Nat} {u : Value} (hj : xs[j]? = some u) : w.cell? ((adOf v).add j) = some u := by
  rcases h with ⟨rfl, _, rfl⟩ | ⟨ad, cap, rfl, _, hc⟩
  · cases hj
  · exact hc j u hj
theorem RdC.one {w : World} {v : Value} {n : Nat} {xs : List Value} (h : RdC w v n xs) : v.oneCell' = true := by
  rcases h with ⟨rfl, _⟩ | ⟨ad, cap, rfl, _⟩ <;> rfl
theorem RdC.cells {w : World} {v : Value} {n : Nat} {xs : List Value} (h : RdC w v n xs) : v.cells = #[v] := by
  rcases h with ⟨rfl, _⟩ | ⟨ad, cap, rfl, _⟩ <;> rfl
theorem RdC.form {w : World} {v : Value} {n : Nat} {xs : List Value} (h : RdC w v n xs) : ∃ ad, v = .slice ad n (cpOf v) ∧ (0 < n → ad = some (adOf v)) := by
  rcases h with ⟨rfl, rfl, _⟩ | ⟨ad, cap, rfl, _⟩
  · exact ⟨none, rfl, fun h => absurd h (by omega)⟩
  · exact ⟨some ad, rfl, fun _ => rfl⟩
/-- the cells of a slice, as a piece -/
def rdC (v : Value) (n : Nat) (xs : List Value) : Res where
  fp k := xs ≠ [] ∧ (adOf v).block = k
  holds w := RdC w v n xs
  loc w w' h hr := by
    rcases hr with hr | ⟨ad, cp, rfl, hc, hr⟩
    · exact .inl hr
    · refine .inr ⟨ad, cp, rfl, hc, fun j u hj => ?_⟩
      have hb : (ad.add j).block = ad.block := by cases j <;> simp [Addr.add]
      have hne : xs ≠ [] := fun e => by subst e; cases hj
      have := h ad.block ⟨hne, rfl⟩
      have h2 := hr j u hj
      simp only [World.cell?, hb] at h2 ⊢
      rw [this]; exact h2
  bnd w hr k hk := by
    obtain ⟨hne, rfl⟩ := hk
    cases xs with
    | nil => exact (hne rfl).elim
    | cons u us =>
      have h0 := hr.cell (j := 0) (u := u) rfl
      rw [show (adOf v).add 0 = adOf v by simp [Addr.add]] at h0
      exact World.block_lt_of_cell? w _ h0
theorem Ro.rdC {c : Cx} {v : Value} {n : Nat} {xs : List Value} {w : World} {H : List Res} (h : Ro c.E c.w0 (YtkkjfojgjmglpaaGreatDoor.rdC v n xs)) (hw : St c w H) : RdC w v n xs := h.st hw
section
variable {α : Type} {f : α → List Value} {k : Nat} {d0 : α}
theorem flat_get (hf : ∀ a, (f a).length = k) : ∀ {l : List α} {i j : Nat}, i < l.length → j < k → (l.flatMap f)[i * k + j]? = (f (l.getD i d0))[j]?
  | [], _, _, h, _ => absurd h (by simp)
  | a :: l, 0, j, _, hj => by
    simp only [List.flatMap_cons, Nat.zero_mul, Nat.zero_add, List.getD_cons_zero]
    rw [List.getElem?_append_left (by rw [hf]; exact hj)]
  | a :: l, i + 1, j, h, hj => by
    simp only [List.flatMap_cons, List.getD_cons_succ]
    rw [List.getElem?_append_right (by rw [hf, Nat.add_mul]; omega), hf, show (i + 1) * k + j - k = i * k + j by rw [Nat.add_mul]; omega]
    exact flat_get hf (by simpa using h) hj
theorem flat_len (hf : ∀ a, (f a).length = k) {l : List α} : (l.flatMap f).length = l.length * k := by
  induction l with
  | nil => simp
  | cons a l ih => rw [List.flatMap_cons, List.length_append, hf, ih, List.length_cons, Nat.add_mul]; omega
/-- some cells of an element -/
theorem flat_part (hf : ∀ a, (f a).length = k) {l : List α} {i o : Nat} {vs : List Value} (hi : i < l.length) (hv : ((f (l.getD i d0)).drop o).take vs.length = vs) {w : World} {v : Value} {n : Nat} (h : RdC w v n (l.flatMap f)) :
    ∀ j u, vs[j]? = some u → w.cell? (((adOf v).add (i * k + o)).add j) = some u := fun j u hj => by
  have hj1 : j < vs.length := (List.getElem?_eq_some_iff.1 hj).1
  have hlen : vs.length ≤ (f (l.getD i d0)).length - o := by have := congrArg List.length hv; rw [List.length_take, List.length_drop] at this; omega
  rw [Deep.add_add]
  refine h.cell ?_
  rw [show i * k + o + j = i * k + (o + j) by omega, flat_get (d0 := d0) hf hi (by rw [hf] at hlen; omega)]
  rw [← hv, List.getElem?_take, if_pos hj1, List.getElem?_drop] at hj
  exact hj
theorem RdC.part {l : List α} {i o : Nat} {w : World} {v : Value} {n : Nat} (h : RdC w v n (l.flatMap f)) (hf : ∀ a, (f a).length = k) (hi : i < l.length) {bs : List UInt8} {m : Nat} (hv : ((f (l.getD i d0)).drop o).take m = bs.map B ∧ bs.length = m) :
    RdB w (.slice (some ((adOf v).add (i * k + o))) m m) bs :=
  .inr ⟨(adOf v).add (i * k + o), m, by simp [hv.2], by simp [hv.2], fun j u hj => flat_part (d0 := d0) hf hi (vs := bs.map B) (by rw [List.length_map, hv.2]; exact hv.1) h j u hj⟩
end
section
variable {P : Program} {n : Nat} {S : World → Prop} {L : Sl} {dst : Option Tmp} {rty : TypeId} {pos : String} {af : Array Edge} {gd : Option (Nat × Bool)}
  {t t' : TypeId} {x y z : Operand} {v u : Value} {α : Type} {f : α → List Value} {l : List α} {d0 : α}
theorem y_lenE {w0 : World} {m : Nat} {xs : List Value} {e : TypeId} (hx : ev L x = some v) (hv : RdC w0 v m xs) (ht : P.underlying t = some (.slice e)) :
    Y P n S L ⟨dst, .call { callee := .builtin .len, args := #[x], argTypes := #[t] }, rty, pos, af, gd⟩ (I (m : Int)) := by
  obtain ⟨ad, hf, _⟩ := hv.form
  rw [hf] at hx
  exact y_lenS hx ht
theorem y_ixE {w0 : World} {i k m : Nat} {kk : IntKind} {xs : List Value} (hx : ev L x = some v) (hy : ev L y = some (.int kk (i : Int))) (hv : RdC w0 v m xs) (hi : i < m) (ht : sliB P t k = true) :
    Y P n S L ⟨dst, .indexAddr t x y, rty, pos, af, gd⟩ (.pointer (some ((adOf v).add (i * k + 0)))) := by
  obtain ⟨ad, hf, h2⟩ := hv.form
  rw [h2 (by omega)] at hf
  rw [hf] at hx
  refine (y_ixS hx hy ht (by omega)).cast ?_
  rw [Int.toNat_natCast, Nat.add_zero]
theorem y_fldE {o off fi : Nat} (hx : ev L x = some (.pointer (some ((adOf v).add o)))) (ht : fldB P t fi off = true) :
    Y P n S L ⟨dst, .fieldAddr t x fi, rty, pos, af, gd⟩ (.pointer (some ((adOf v).add (o + off)))) := (y_fld hx ht).cast (by rw [Deep.add_add])
theorem y_loadE {i k o : Nat} (m : Nat) {vs : List Value} (hx : ev L x = some (.pointer (some ((adOf v).add (i * k + o))))) (ht : agB P t m = true) (hk : vs.length = m) (hf : ∀ a, (f a).length = k) (hi : i < l.length) (hv : ((f (l.getD i d0)).drop o).take m = vs)
    (hS : ∀ w, S w → RdC w v l.length (l.flatMap f)) : Y P n S L ⟨dst, .load t x, rty, pos, af, gd⟩ (.agg vs.toArray) :=
  y_loadA m hx ht hk (fun w hw => flat_part (d0 := d0) hf hi (by rw [hk]; exact hv) (hS w hw))
theorem y_loadE1 {i k o : Nat} (hx : ev L x = some (.pointer (some ((adOf v).add (i * k + o))))) (ht : scB P t = true) (hf : ∀ a, (f a).length = k) (hi : i < l.length) (hv : (f (l.getD i d0))[o]? = some u)
    (hS : ∀ w, S w → RdC w v l.length (l.flatMap f)) : Y P n S L ⟨dst, .load t x, rty, pos, af, gd⟩ u :=
  y_load hx ht (fun w hw => by
    refine (hS w hw).cell ?_
    rw [flat_get (d0 := d0) hf hi (by have := (List.getElem?_eq_some_iff.1 hv).1; rw [hf] at this; exact this)]
    exact hv)
end
section
variable {c : Cx} {L : Sl} {H : List Res} {P : Program} {Q : Exit → Act → World → Prop} {K : Act → World → Prop} {d : Nat} {rty : TypeId} {pos : String} {af : Array Edge} {gd : Option (Nat × Bool)} {t t' : TypeId} {x y : Operand} {v : Value} {α : Type} {f : α → List Value}
theorem tk_ownA {xs : List Value} {m k : Nat} {T : TypeId} (hm : own v m xs T k ∈ H) (h : (∃ w0, RdC w0 v m xs) → TK c K L H) : TK c K L H := tk_form (fun w hw => ⟨w, own_rdC (hw.mem hm)⟩) h
theorem tk_ownA0 (k : Nat) (T : TypeId) (h : TK c K L (ownA f k (.slice none 0 0) [] T :: H)) : TK c K L H := fun a w ha hw =>
  h a w ha (St.new (N := [own (.slice none 0 0) 0 [] T k]) hw (Fo.refl _ _) ⟨own_nil, trivial⟩ ⟨fun _ _ h => h, trivial⟩ (fun k hk => by
    rcases hk with hk | hk
    · cases hk
    · exact hk.elim))
/-- append of one element out of a row of its own -/
theorem a_appE {H1 H2 : List Res} {l : List α} {e : α} {T T' : TypeId} {k bytes b : Nat} (hx : ev L x = some v) (hy : ev L y = some (.slice (some ⟨b, 0, none⟩) 1 1)) (he : elB P t T k bytes) (hn : Nat.blt d c.n = true)
    (hH : H = H1 ++ ownA f k v l T :: H2) (hb : cel b (f e) T' ∈ H) (hk : (f e).length = k) (h1 : ∀ u ∈ f e, u.oneCell' = true) (hl : l.length + 1 ≤ 16777216) (hy1 : (l.length + 1) * bytes ≤ 140737488355328) (h : ∀ v', TK c K ((d, v') :: L) (H1 ++ ownA f k v' (l ++ [e]) T :: H2)) :
    TK c (fun a w => (⟨some d, .call { callee := .builtin .append, args := #[x, y], argTypes := #[t, t] }, rty, pos, af, gd⟩ : Oper).wp P a w K Q) L H :=
  a_append (n := l.length) (m := 1) (xs := l.flatMap f) (news := f e) hx hy he hn hH (by rw [hk, Nat.one_mul]) (fun w hw j u hj => by rw [add_w, Nat.zero_add]; exact cel_cell (hw.mem hb) hj) h1 ⟨by omega, hy1⟩
    (fun v' => by have := h v'; simp only [ownA, List.length_append, List.length_singleton, List.flatMap_append, List.flatMap_singleton] at this; exact this)
theorem run_slitE {w : World} {e : TypeId} {bytes k : Nat} {cs : List Value} (he : elB P t e k bytes) (hk : cs.length = k) (hs : k ≤ 16777216) :
    (Instr.buildSlice t 1 #[(0, .agg cs.toArray)]).run P w = .ok (.slice (some ⟨w.heap.size, 0, none⟩) 1 1) { w with heap := w.heap.push (.cells cs.toArray e) } := by
  obtain ⟨ht, i, z, hi, hz, hzs, rfl, _, h0⟩ := he
  have hv : (Value.agg cs.toArray).cells = cs.toArray := rfl
  have h2 : ¬ (2 ^ 24 < 1 * i.size) := by omega
  have h3 : ¬ (i.size = 0) := by omega
  have h4 := foldl_set 0 cs 0 ((Array.range (1 * i.size)).map (z.cells[· % z.cells.size]!)) (by simp [hk])
  have h5 : cs.toArray.zipIdx.foldl (fun cs (p : Value × Nat) => cs.setIfInBounds (0 * i.size + p.2) p.1) ((Array.range (1 * i.size)).map (z.cells[· % z.cells.size]!)) = cs.toArray := by
    rw [← Array.foldl_toList, Array.toList_zipIdx, Nat.zero_mul]
    refine h4.trans ?_
    rw [List.drop_of_length_le (by simp; omega)]; simp
  have h6 : Instr.fill (fun j => some (j * i.size, i.size)) ((Array.range (1 * i.size)).map (z.cells[· % z.cells.size]!)) [(0, .agg cs.toArray)] = some cs.toArray := by
    simp only [Instr.fill, hv]
    rw [if_neg (by simp; omega)]
    exact congrArg some h5
  simp only [Instr.buildSlice, Sem.run_bind, run_underlying ht, Result.andThen_ok, Go.sizeOf, typeInfo]
  simp [hi, zeroValue, typeInfo, hz, newRow, h3]
  rw [Nat.one_mul] at h6
  rw [if_neg (by omega), h6]; rfl
theorem a_slitE {o : Operand} {e : TypeId} {bytes k : Nat} {cs : List Value} (hx : ev L o = some (.agg cs.toArray)) (he : elB P t e k bytes) (hk : cs.length = k) (hs : k ≤ 16777216) (hn : Nat.blt d c.n = true)
    (h : ∀ b, TK c K ((d, .slice (some ⟨b, 0, none⟩) 1 1) :: L) (cel b cs e :: H)) :
    TK c (fun a w => (⟨some d, .buildSlice t 1 #[(0, o)], rty, pos, af, gd⟩ : Oper).wp P a w K Q) L H :=
  a_slit (xs := [(0, o)]) (vs := [(0, .agg cs.toArray)]) (by simp [evp, hx]) hn (fun _ => run_slitE he hk hs) h
end
/-! ### a struct's value built of its first parts -/
theorem fillP1 {zs a cs : List Value} {n : Nat} {pl : List (Nat × Nat)} (ha : a.length = n) (hz : n ≤ zs.length) (e : a ++ zs.drop n = cs) : fillL ((0, n) :: pl) zs [(0, a)] = some cs := by
  subst ha; subst e
  simp only [fillL, List.getElem?_cons_zero]
  rw [if_pos ⟨trivial, by omega⟩]; simp
theorem fillP2 {zs a b cs : List Value} {n m : Nat} {pl : List (Nat × Nat)} (ha : a.length = n) (hb : b.length = m) (hz : n + m ≤ zs.length) (e : a ++ b ++ zs.drop (n + m) = cs) : fillL ((0, n) :: (n, m) :: pl) zs [(0, a), (1, b)] = some cs := by
  subst ha; subst hb; subst e
  simp only [fillL, List.getElem?_cons_zero, List.getElem?_cons_succ]
  have h2 : zs.take 0 ++ a ++ zs.drop (0 + a.length) = a ++ zs.drop a.length := by simp
  rw [if_pos ⟨trivial, by omega⟩, h2, if_pos ⟨trivial, by simp; omega⟩, List.take_left, ← List.drop_drop]
  congr 2
  rw [← List.drop_drop, List.drop_left]
theorem fillP4 {zs a cs : List Value} {x y z : Value} {n : Nat} (ha : a.length = n) (hz : zs.length = n + 3) (e : a ++ [x, y, z] = cs) : fillL [(0, n), (n, 1), (n + 1, 1), (n + 2, 1)] zs [(0, a), (1, [x]), (2, [y]), (3, [z])] = some cs := by
  subst ha; subst e
  obtain ⟨p, q, rfl, hp⟩ : ∃ p q, zs = p ++ q ∧ p.length = a.length := ⟨zs.take a.length, zs.drop a.length, by simp, by simp; omega⟩
  have hq : q.length = 3 := by simp at hz; omega
  match q, hq with
  | [q1, q2, q3], _ =>
    simp only [fillL, List.getElem?_cons_zero, List.getElem?_cons_succ]
    have h2 : (p ++ [q1, q2, q3]).take 0 ++ a ++ (p ++ [q1, q2, q3]).drop (0 + a.length) = a ++ [q1, q2, q3] := by rw [Nat.zero_add, ← hp]; simp
    have h3 : ∀ (u1 u2 u3 : Value), (a ++ [u1, u2, u3]).take a.length ++ [x] ++ (a ++ [u1, u2, u3]).drop (a.length + 1) = a ++ [x, u2, u3] := fun u1 u2 u3 => by rw [List.take_left, List.drop_length_add_append]; simp
    have h4 : ∀ (u1 u2 u3 : Value), (a ++ [u1, u2, u3]).take (a.length + 1) ++ [y] ++ (a ++ [u1, u2, u3]).drop (a.length + 1 + 1) = a ++ [u1, y, u3] := fun u1 u2 u3 => by rw [List.take_length_add_append, Nat.add_assoc, List.drop_length_add_append]; simp
    have h5 : ∀ (u1 u2 u3 : Value), (a ++ [u1, u2, u3]).take (a.length + 2) ++ [z] ++ (a ++ [u1, u2, u3]).drop (a.length + 2 + 1) = a ++ [u1, u2, z] := fun u1 u2 u3 => by rw [List.take_length_add_append, Nat.add_assoc, List.drop_length_add_append]; simp
    rw [if_pos ⟨trivial, by simp; omega⟩, h2, if_pos ⟨rfl, by simp⟩, h3, if_pos ⟨rfl, by simp⟩, h4, if_pos ⟨rfl, by simp⟩, h5]
section
variable {L : Sl} {P : Program} {n : Nat} {S : World → Prop}
theorem rcc {fn : Func} {p b o p2 b2 o2 : Nat} {ty ty2 : TypeId} {vs vs2 : List Value} (h : fn.results = #[.cell p ty, .cell p2 ty2]) (hp : lk p L = some (.pointer (some ⟨b, o, none⟩))) (ht : agB P ty vs.length = true)
    (hc : ∀ w, S w → ∀ (j : Nat) (u : Value), vs[j]? = some u → w.cell? ((⟨b, o, none⟩ : Addr).add j) = some u)
    (hp2 : lk p2 L = some (.pointer (some ⟨b2, o2, none⟩))) (ht2 : agB P ty2 vs2.length = true)
    (hc2 : ∀ w, S w → ∀ (j : Nat) (u : Value), vs2[j]? = some u → w.cell? ((⟨b2, o2, none⟩ : Addr).add j) = some u) :
    ∀ a w, Agr n a L → S w → (results fn a.tmps).run P w = .ok (.tuple #[.agg vs.toArray, .agg vs2.toArray]) w := fun a w ha hs => by
  have e1 := cell_run ha hp ht (hc w hs)
  have e3 := cell_run ha hp2 ht2 (hc2 w hs)
  have e4 : (results fn a.tmps) = (do let v ← (do loadVar ty (← asAddr (a.tmps.getD p undef))); let v2 ← (do loadVar ty2 (← asAddr (a.tmps.getD p2 undef))); pure (.tuple #[v, v2])) := by
    unfold results; rw [h]; simp
  rw [e4, Sem.run_bind, e1]
  show (do let v2 ← (do loadVar ty2 (← asAddr (a.tmps.getD p2 undef))); pure (Value.tuple #[.agg vs.toArray, v2])).run P w = _
  rw [Sem.run_bind, e3]
  rfl
theorem r4 {fn : Func} {p q r s : Nat} {v u x y : Value} (h : fn.results = #[.tmp p, .tmp q, .tmp r, .tmp s]) (hv : lk p L = some v) (hu : lk q L = some u) (hx : lk r L = some x) (hy : lk s L = some y) :
    ∀ a w, Agr n a L → S w → (results fn a.tmps).run P w = .ok (.tuple #[v, u, x, y]) w := fun a w ha _ => by
  have e1 : a.tmps.getD p undef = v := by rw [Array.getD_eq_getD_getElem?, ha.at_ p v hv]; rfl
  have e2 : a.tmps.getD q undef = u := by rw [Array.getD_eq_getD_getElem?, ha.at_ q u hu]; rfl
  have e3 : a.tmps.getD r undef = x := by rw [Array.getD_eq_getD_getElem?, ha.at_ r x hx]; rfl
  have e4 : a.tmps.getD s undef = y := by rw [Array.getD_eq_getD_getElem?, ha.at_ s y hy]; rfl
  have e5 : (results fn a.tmps) = pure (.tuple #[a.tmps.getD p undef, a.tmps.getD q undef, a.tmps.getD r undef, a.tmps.getD s undef]) := by
    unfold results; rw [h]; simp
  rw [e5, e1, e2, e3, e4]; rfl
theorem r3 {fn : Func} {p q r : Nat} {v u x : Value} (h : fn.results = #[.tmp p, .tmp q, .tmp r]) (hv : lk p L = some v) (hu : lk q L = some u) (hx : lk r L = some x) :
    ∀ a w, Agr n a L → S w → (results fn a.tmps).run P w = .ok (.tuple #[v, u, x]) w := fun a w ha _ => by
  have e1 : a.tmps.getD p undef = v := by rw [Array.getD_eq_getD_getElem?, ha.at_ p v hv]; rfl
  have e2 : a.tmps.getD q undef = u := by rw [Array.getD_eq_getD_getElem?, ha.at_ q u hu]; rfl
  have e3 : a.tmps.getD r undef = x := by rw [Array.getD_eq_getD_getElem?, ha.at_ r x hx]; rfl
  have e5 : (results fn a.tmps) = pure (.tuple #[a.tmps.getD p undef, a.tmps.getD q undef, a.tmps.getD r undef]) := by
    unfold results; rw [h]; simp
  rw [e5, e1, e2, e3]; rfl
end
section
variable {P : Program} {n : Nat} {S : World → Prop} {L : Sl} {dst : Option Tmp} {rty : TypeId} {pos : String} {af : Array Edge} {gd : Option (Nat × Bool)}
  {t t' : TypeId} {x y z : Operand}
theorem y_quo8 {a b : UInt8} (hx : ev L x = some (B a)) (hy : ev L y = some (B b)) (h : 0 < b.toNat) : Y P n S L ⟨dst, .binOp .quo t x y t', rty, pos, af, gd⟩ (B (UInt8.ofNat (a.toNat / b.toNat))) :=
  (y_quo hx hy (by omega)).cast (by
    have h1 : a.toNat / b.toNat ≤ a.toNat := Nat.div_le_self _ _
    have h2 : a.toNat < 256 := a.toNat_lt
    have h3 : (a.toNat : Int).tdiv (b.toNat : Int) = ((a.toNat / b.toNat : Nat) : Int) := rfl
    rw [h3]
    have h4 : (UInt8.ofNat (a.toNat / b.toNat)).toNat = a.toNat / b.toNat := by simp; omega
    simp only [B, h4]
    congr 1
    simp [IntKind.wrap, IntKind.signed, IntKind.bits]; omega)
theorem y_rem8 {a b : UInt8} (hx : ev L x = some (B a)) (hy : ev L y = some (B b)) (h : 0 < b.toNat) : Y P n S L ⟨dst, .binOp .rem t x y t', rty, pos, af, gd⟩ (B (UInt8.ofNat (a.toNat % b.toNat))) :=
  (y_rem hx hy (by omega)).cast (by
    have h1 : a.toNat % b.toNat ≤ a.toNat := Nat.mod_le _ _
    have h2 : a.toNat < 256 := a.toNat_lt
    have h3 : (a.toNat : Int).tmod (b.toNat : Int) = ((a.toNat % b.toNat : Nat) : Int) := rfl
    rw [h3]
    have h4 : (UInt8.ofNat (a.toNat % b.toNat)).toNat = a.toNat % b.toNat := by simp; omega
    simp only [B, h4])
end
end Go.Proofs.YtkkjfojgjmglpaaGreatDoor


/- sum: the walks over RotateLeft32, turn and take. -/
import Derived.Test.YtfofkjajlfphjaaDoorEngTwo
import Derived.Test.YtfofkjajlfphjaaDoorSumPure
import Derived.Test.YtfofkjajlfphjaaDoorNames
set_option linter.unusedSimpArgs false
set_option linter.unusedVariables false
namespace Go.Proofs.YtfofkjajlfphjaaDoor
open Go Go.RowKit
set_option maxRecDepth 100000
attribute [local irreducible] sched schedZ rounds rr addI blockF
theorem stepsL_len : stepsL.length = 64 := rfl
/-- the words that the program lays -/
def glob : Res where
  fp k := k = 0 ∨ k = 1
  holds w := (∀ (j : Nat) (v : Value), (beginL.map W4)[j]? = some v → w.cell? ⟨0, j, none⟩ = some v) ∧ (∀ (j : Nat) (v : Value), (stepsL.map W4)[j]? = some v → w.cell? ⟨1, j, none⟩ = some v)
  loc w w' h hh := ⟨fun j v hv => by
    have := hh.1 j v hv
    simp only [World.cell?] at this ⊢
    rw [h 0 (.inl rfl)]; exact this, fun j v hv => by
    have := hh.2 j v hv
    simp only [World.cell?] at this ⊢
    rw [h 1 (.inr rfl)]; exact this⟩
  bnd w hh k hk := by
    rcases hk with rfl | rfl
    · exact World.block_lt_of_cell? w _ (hh.1 0 _ rfl)
    · exact World.block_lt_of_cell? w _ (hh.2 0 _ rfl)
theorem rot_and {n : Nat} (h : 1 ≤ n ∧ n ≤ 31) : Value.int .u64 (bits .and .u64 (IntKind.u64.wrap (-((n : Nat) : Int))) 31) = .int .u64 ((32 - n : Nat) : Int) := by
  have e1 : IntKind.u64.wrap (-((n : Nat) : Int)) = ((18446744073709551616 - n : Nat) : Int) := by rw [IntKind.wrap_u64]; omega
  have e2 : (31 : Int) = ((31 : Nat) : Int) := rfl
  rw [e1, e2, u64_and_nat _ _ (by omega) (by omega)]
  have e3 : (18446744073709551616 - n) &&& 31 = (18446744073709551616 - n) % 32 := Nat.and_two_pow_sub_one_eq_mod _ 5
  rw [e3]; congr 1; omega
theorem rot_sub {n : Nat} (h : 1 ≤ n ∧ n ≤ 31) : Value.int .u64 (IntKind.u64.wrap (32 - ((32 - n : Nat) : Int))) = .int .u64 ((n : Nat) : Int) := by
  rw [IntKind.wrap_u64]; congr 1; omega
theorem rot_spec (a : UInt32) (n : Nat) {w : World} (h : 1 ≤ n ∧ n ≤ 31) : Spec Tryd.prog 113 [W4 a, I (-((n : Nat) : Int))] w [] (fun _ : Unit => True) (fun _ => W4 (rr a n)) (fun _ => []) := by
  refine spec_of (n := 17) Tryd.func113 rfl rfl trivial trivial rfl ?_
  refine tk_seq ?_
  refine tk_region ?_
  refine tk_q rfl rfl rfl (y_assign rfl) ?_
  refine tk_nil ?_
  refine tk_then ?_
  refine tk_seq ?_
  refine tk_region ?_
  refine tk_q rfl rfl rfl (y_move rfl) ?_
  refine tk_q rfl rfl rfl (y_conv rfl rfl rfl) ?_
  refine tk_q rfl rfl rfl ((y_bits rfl rfl (by simp)).cast (rot_and h)) ?_
  refine tk_q rfl rfl rfl (y_assign rfl) ?_
  refine tk_nil ?_
  refine tk_then ?_
  refine tk_seq ?_
  refine tk_region ?_
  refine tk_q rfl rfl rfl (y_move rfl) ?_
  refine tk_q rfl rfl rfl (y_move rfl) ?_
  refine tk_q rfl rfl rfl (y_shlW (a := a) (m := 32 - n) rfl rfl (by omega)) ?_
  refine tk_q rfl rfl rfl (y_move rfl) ?_
  refine tk_q rfl rfl rfl (y_move rfl) ?_
  refine tk_q rfl rfl rfl ((y_sub rfl rfl).cast (rot_sub h)) ?_
  refine tk_q rfl rfl rfl (y_shrW (a := a) (m := n) rfl rfl (by omega)) ?_
  refine tk_qe (W4 (rr a n)) rfl rfl rfl (y_orW (a := a <<< UInt32.ofNat (32 - n)) (b := a >>> UInt32.ofNat n) rfl rfl) (congrArg W4 (rr_def a n)) ?_
  refine tk_q rfl rfl rfl (y_assign rfl) ?_
  refine tk_nil ?_
  refine tk_then ?_
  refine tk_retc ?_
  exact tk_ret (()) (trivial) (.inl rfl) (r1 rfl rfl) (List.Sublist.refl _)
set_option maxHeartbeats 1000000 in
theorem turn_spec {sb n : Nat} {R : List UInt32} {W : List UInt8} {w : World} (hR : R.length = 8) (hW : W.length = 64) (hg : Ro (Fs [cel sb (R.map W4 ++ (W.map B ++ [I ((n : Nat) : Int)])) 172]) w glob)
    (hh : Pre w [cel sb (R.map W4 ++ (W.map B ++ [I ((n : Nat) : Int)])) 172]) :
    Spec Tryd.prog 109 [.pointer (some ⟨sb, 0, none⟩)] w [cel sb (R.map W4 ++ (W.map B ++ [I ((n : Nat) : Int)])) 172] (fun _ : Unit => True) (fun _ => .tuple #[])
      (fun _ => [cel sb ((blockF R W).map W4 ++ (W.map B ++ [I ((n : Nat) : Int)])) 172]) := by
  refine spec_of (n := 180) Tryd.func109 rfl rfl hh.1 hh.2 rfl ?_
  have h8 := stepsL_len
  refine tk_seq ?_
  refine tk_region ?_
  refine tk_act rfl ?_; refine a_allocL (cs := (List.replicate 64 0).map W4) (by kernel_rfl) rfl fun b2 => ?_
  refine tk_nil ?_
  refine tk_then ?_
  refine tk_seq ?_
  refine tk_seq ?_
  refine tk_region ?_
  refine tk_q rfl rfl rfl (y_move rfl) ?_
  refine tk_nil ?_
  refine tk_then ?_
  refine tk_block ?_
  refine tk_H [cel b2 ((schedZ W 0).map W4) 193, cel sb (R.map W4 ++ (W.map B ++ ([I ((n : Nat) : Int)]))) 172] (congrArg (fun z_ => [cel b2 z_ 193, cel sb (R.map W4 ++ (W.map B ++ ([I ((n : Nat) : Int)]))) 172]) (show (List.replicate 64 0).map W4 = (schedZ W 0).map W4 from by rw [schedZ_0])) ?_
  refine tk_loop (X := Nat) (fun i => i ≤ 64) (fun i => [(0, .pointer (some ⟨sb, 0, none⟩)), (2, .pointer (some ⟨b2, 0, none⟩)), (15, I ((i : Nat) : Int))]) (fun i => [cel b2 ((schedZ W i).map W4) 193, cel sb (R.map W4 ++ (W.map B ++ ([I ((n : Nat) : Int)]))) 172]) (fun i => 64 - i) (0) (by first | exact trivial | omega | (dsimp only; omega)) (by repeat (first | exact trivial | refine ⟨rfl, ?_⟩)) ((List.Sublist.refl _)) ?_
  rintro i hI
  try dsimp only at hI ⊢
  have hz : (schedZ W i).length = 64 := schedZ_len (by omega)
  refine tk_seq ?_
  refine tk_region ?_
  refine tk_q rfl rfl rfl (y_lss rfl rfl) ?_
  refine tk_nil ?_
  refine tk_then ?_
  refine tk_seq ?_
  refine tk_condP rfl (fun ht16 => ?_) (fun ht16 => ?_)
  · skip
    refine tk_skip ?_
    refine tk_then ?_
    refine tk_seq ?_
    refine tk_block ?_
    refine tk_seq ?_
    refine tk_region ?_
    refine tk_q rfl rfl rfl (y_move rfl) ?_
    refine tk_q rfl rfl rfl (y_assign rfl) ?_
    refine tk_nil ?_
    refine tk_then ?_
    refine tk_seq ?_
    refine tk_seq ?_
    refine tk_region ?_
    refine tk_q rfl rfl rfl (y_move rfl) ?_
    refine tk_q rfl rfl rfl (y_lss rfl rfl) ?_
    refine tk_nil ?_
    refine tk_then ?_
    refine tk_condP rfl (fun ht19 => ?_) (fun ht19 => ?_)
    · skip
      refine tk_seq ?_
      refine tk_region ?_
      refine tk_q rfl rfl rfl (y_move rfl) ?_
      refine tk_q rfl rfl rfl (y_nilCheck rfl) ?_
      refine tk_q rfl rfl rfl (y_fldN (o := 0) 8 rfl (by kernel_rfl)) ?_
      refine tk_q rfl rfl rfl (y_move rfl) ?_
      refine tk_q rfl rfl rfl (y_mulN (a := 4) (b := i) rfl rfl (by omega)) ?_
      refine tk_q rfl rfl rfl (y_cutAlN1 (o := 8) 64 1 (4 * i) rfl rfl (by kernel_rfl) ⟨rfl, (by omega)⟩) ?_
      refine tk_q rfl rfl rfl (y_assign rfl) ?_
      refine tk_nil ?_
      refine tk_then ?_
      refine tk_seq ?_
      refine tk_drawH [cel sb (R.map W4 ++ (W.map B ++ ([I ((n : Nat) : Int)]))) 172] [] (by kernel_rfl) ?_
      refine tx_q 0 rfl (by kernel_rfl) rfl rfl rfl (fun _ _ _ h => h) (y_move rfl) ?_
      refine tx_q 1 rfl (by kernel_rfl) rfl rfl rfl (fun _ _ _ h => h) (y_move rfl) ?_
      refine tx_q 2 rfl (by kernel_rfl) rfl rfl rfl (fun _ _ _ h => h) (y_ixSN 1 (o := 8 + 4 * i) (i := 0) rfl rfl (by kernel_rfl) (by omega)) ?_
      refine tx_l 3 rfl (by kernel_rfl) (by kernel_rfl) rfl rfl rfl (fun _ _ _ h => h) (fun _ h => h.sub (.cons _ (List.Sublist.refl _))) (y_load rfl rfl (hc (o := 8 + 4 * i) (.head _) (gA (k := 8) (i := 4 * i) lenP (by omega) (gM1 (d := 0) lenP)))) ?_
      refine tx_q 4 rfl (by kernel_rfl) rfl rfl rfl (fun _ _ _ h => h) (y_conv8W (a := W.getD (4 * i) 0) rfl rfl rfl) ?_
      refine tx_q 5 rfl (by kernel_rfl) rfl rfl rfl (fun _ _ _ h => h) (y_shlW (a := (W.getD (4 * i) 0).toUInt32) (m := 24) rfl rfl (by decide)) ?_
      refine tx_q 6 rfl (by kernel_rfl) rfl rfl rfl (fun _ _ _ h => h) (y_move rfl) ?_
      refine tx_q 7 rfl (by kernel_rfl) rfl rfl rfl (fun _ _ _ h => h) (y_ixSN 1 (o := 8 + 4 * i) (i := 1) rfl rfl (by kernel_rfl) (by omega)) ?_
      refine tx_l 8 rfl (by kernel_rfl) (by kernel_rfl) rfl rfl rfl (fun _ _ _ h => h) (fun _ h => h.sub (.cons _ (List.Sublist.refl _))) (y_load rfl rfl (hc (o := 8 + 4 * i + 1) (.head _) (gA (k := 8) (i := 4 * i + 1) lenP (by omega) (gM1 (d := 0) lenP)))) ?_
      refine tx_q 9 rfl (by kernel_rfl) rfl rfl rfl (fun _ _ _ h => h) (y_conv8W (a := W.getD (4 * i + 1) 0) rfl rfl rfl) ?_
      refine tx_q 10 rfl (by kernel_rfl) rfl rfl rfl (fun _ _ _ h => h) (y_shlW (a := (W.getD (4 * i + 1) 0).toUInt32) (m := 16) rfl rfl (by decide)) ?_
      refine tx_q 11 rfl (by kernel_rfl) rfl rfl rfl (fun _ _ _ h => h) (y_orW (a := ((W.getD (4 * i) 0).toUInt32) <<< UInt32.ofNat 24) (b := ((W.getD (4 * i + 1) 0).toUInt32) <<< UInt32.ofNat 16) rfl rfl) ?_
      refine tx_q 12 rfl (by kernel_rfl) rfl rfl rfl (fun _ _ _ h => h) (y_move rfl) ?_
      refine tx_q 13 rfl (by kernel_rfl) rfl rfl rfl (fun _ _ _ h => h) (y_ixSN 1 (o := 8 + 4 * i) (i := 2) rfl rfl (by kernel_rfl) (by omega)) ?_
      refine tx_l 14 rfl (by kernel_rfl) (by kernel_rfl) rfl rfl rfl (fun _ _ _ h => h) (fun _ h => h.sub (.cons _ (List.Sublist.refl _))) (y_load rfl rfl (hc (o := 8 + 4 * i + 2) (.head _) (gA (k := 8) (i := 4 * i + 2) lenP (by omega) (gM1 (d := 0) lenP)))) ?_
      refine tx_q 15 rfl (by kernel_rfl) rfl rfl rfl (fun _ _ _ h => h) (y_conv8W (a := W.getD (4 * i + 2) 0) rfl rfl rfl) ?_
      refine tx_q 16 rfl (by kernel_rfl) rfl rfl rfl (fun _ _ _ h => h) (y_shlW (a := (W.getD (4 * i + 2) 0).toUInt32) (m := 8) rfl rfl (by decide)) ?_
      refine tx_q 17 rfl (by kernel_rfl) rfl rfl rfl (fun _ _ _ h => h) (y_orW (a := (((W.getD (4 * i) 0).toUInt32) <<< UInt32.ofNat 24) ||| (((W.getD (4 * i + 1) 0).toUInt32) <<< UInt32.ofNat 16)) (b := ((W.getD (4 * i + 2) 0).toUInt32) <<< UInt32.ofNat 8) rfl rfl) ?_
      refine tx_q 18 rfl (by kernel_rfl) rfl rfl rfl (fun _ _ _ h => h) (y_move rfl) ?_
      refine tx_q 19 rfl (by kernel_rfl) rfl rfl rfl (fun _ _ _ h => h) (y_ixSN 1 (o := 8 + 4 * i) (i := 3) rfl rfl (by kernel_rfl) (by omega)) ?_
      refine tx_l 20 rfl (by kernel_rfl) (by kernel_rfl) rfl rfl rfl (fun _ _ _ h => h) (fun _ h => h.sub (.cons _ (List.Sublist.refl _))) (y_load rfl rfl (hc (o := 8 + 4 * i + 3) (.head _) (gA (k := 8) (i := 4 * i + 3) lenP (by omega) (gM1 (d := 0) lenP)))) ?_
      refine tx_q 21 rfl (by kernel_rfl) rfl rfl rfl (fun _ _ _ h => h) (y_conv8W (a := W.getD (4 * i + 3) 0) rfl rfl rfl) ?_
      refine tx_q 22 rfl (by kernel_rfl) rfl rfl rfl (fun _ _ _ h => h) (y_orW (a := ((((W.getD (4 * i) 0).toUInt32) <<< UInt32.ofNat 24) ||| (((W.getD (4 * i + 1) 0).toUInt32) <<< UInt32.ofNat 16)) ||| (((W.getD (4 * i + 2) 0).toUInt32) <<< UInt32.ofNat 8)) (b := (W.getD (4 * i + 3) 0).toUInt32) rfl rfl) ?_
      refine tx_q 23 rfl (by kernel_rfl) rfl rfl rfl (fun _ _ _ h => h) (y_ixA01 64 (i := i) rfl rfl (by kernel_rfl) (by omega)) ?_
      refine tx_a 24 rfl (by kernel_rfl) rfl ?_; refine a_storeE (H1 := []) (o := i) (v := W4 ((((((W.getD (4 * i) 0).toUInt32) <<< UInt32.ofNat 24) ||| (((W.getD (4 * i + 1) 0).toUInt32) <<< UInt32.ofNat 16)) ||| (((W.getD (4 * i + 2) 0).toUInt32) <<< UInt32.ofNat 8)) ||| ((W.getD (4 * i + 3) 0).toUInt32))) (cs' := ((schedZ W i).set i ((((((W.getD (4 * i) 0).toUInt32) <<< UInt32.ofNat 24) ||| (((W.getD (4 * i + 1) 0).toUInt32) <<< UInt32.ofNat 16)) ||| (((W.getD (4 * i + 2) 0).toUInt32) <<< UInt32.ofNat 8)) ||| ((W.getD (4 * i + 3) 0).toUInt32))).map W4) rfl rfl (by kernel_rfl) rfl rfl (by first | (simp; done) | (simp; omega)) (sM) ?_
      refine tk_S (fun _ h => h.sub (.cons _ (List.Sublist.refl _))) ?_
      refine tx_done (by kernel_rfl) ?_
      refine tk_then ?_
      refine tk_exit ?_
      refine tk_then_exit ?_
      refine tk_in_hit ?_
      refine tk_then ?_
      refine tk_region ?_
      refine tk_q rfl rfl rfl (y_addN (a := i) (b := 1) rfl rfl (by omega)) ?_
      refine tk_q rfl rfl rfl (y_move rfl) ?_
      refine tk_nil ?_
      refine tk_H [cel b2 ((schedZ W (i + 1)).map W4) 193, cel sb (R.map W4 ++ (W.map B ++ ([I ((n : Nat) : Int)]))) 172] (congrArg (fun z_ => [cel b2 z_ 193, cel sb (R.map W4 ++ (W.map B ++ ([I ((n : Nat) : Int)]))) 172]) (show ((schedZ W i).set i ((((((W.getD (4 * i) 0).toUInt32) <<< UInt32.ofNat 24) ||| (((W.getD (4 * i + 1) 0).toUInt32) <<< UInt32.ofNat 16)) ||| (((W.getD (4 * i + 2) 0).toUInt32) <<< UInt32.ofNat 8)) ||| ((W.getD (4 * i + 3) 0).toUInt32))).map W4 = (schedZ W (i + 1)).map W4 from congrArg (List.map W4) (schedZ_lo (by omega) (by omega)))) ?_
      exact tk_again (i + 1) (by first | exact trivial | omega | (dsimp only; omega)) (by first | omega | (dsimp only; omega)) (by repeat (first | exact trivial | refine ⟨rfl, ?_⟩)) (List.Sublist.refl _)
    · skip
      refine tk_skip ?_
      refine tk_then ?_
      refine tk_seq ?_
      refine tk_drawH [cel b2 ((schedZ W i).map W4) 193, cel sb (R.map W4 ++ (W.map B ++ ([I ((n : Nat) : Int)]))) 172] [] (by kernel_rfl) ?_
      refine tx_q 0 rfl (by kernel_rfl) rfl rfl rfl (fun _ _ _ h => h) (y_move rfl) ?_
      refine tx_q 1 rfl (by kernel_rfl) rfl rfl rfl (fun _ _ _ h => h) (y_subN (a := i) (b := 15) rfl rfl (by omega)) ?_
      refine tx_q 2 rfl (by kernel_rfl) rfl rfl rfl (fun _ _ _ h => h) (y_ixA01 64 (i := i - 15) rfl rfl (by kernel_rfl) (by omega)) ?_
      refine tx_l 3 rfl (by kernel_rfl) (by kernel_rfl) rfl rfl rfl (fun _ _ _ h => h) (fun _ h => h.sub (List.Sublist.refl _)) (y_load rfl rfl (hc (o := i - 15) (.head _) (gM (d := 0) lenP))) ?_
      refine tx_q 4 rfl (by kernel_rfl) rfl rfl rfl (fun _ _ _ h => h) (y_move rfl) ?_
      refine tx_q 5 rfl (by kernel_rfl) rfl rfl rfl (fun _ _ _ h => h) (y_subN (a := i) (b := 2) rfl rfl (by omega)) ?_
      refine tx_q 6 rfl (by kernel_rfl) rfl rfl rfl (fun _ _ _ h => h) (y_ixA01 64 (i := i - 2) rfl rfl (by kernel_rfl) (by omega)) ?_
      refine tx_l 7 rfl (by kernel_rfl) (by kernel_rfl) rfl rfl rfl (fun _ _ _ h => h) (fun _ h => h.sub (List.Sublist.refl _)) (y_load rfl rfl (hc (o := i - 2) (.head _) (gM (d := 0) lenP))) ?_
      refine tx_q 8 rfl (by kernel_rfl) rfl rfl rfl (fun _ _ _ h => h) (y_assign rfl) ?_
      refine tx_q 9 rfl (by kernel_rfl) rfl rfl rfl (fun _ _ _ h => h) (y_assign rfl) ?_
      refine tx_done (by kernel_rfl) ?_
      refine tk_then ?_
      refine tk_drawH [cel b2 ((schedZ W i).map W4) 193, cel sb (R.map W4 ++ (W.map B ++ ([I ((n : Nat) : Int)]))) 172] [29] (by kernel_rfl) ?_
      refine tx_q 0 rfl (by kernel_rfl) rfl rfl rfl (fun _ _ _ h => h) (y_move rfl) ?_
      refine tx_q 1 rfl (by kernel_rfl) rfl rfl rfl (fun _ _ _ h => h) (y_move rfl) ?_
      refine tx_q 2 rfl (by kernel_rfl) rfl rfl rfl (fun _ _ _ h => h) (y_subN (a := i) (b := 16) rfl rfl (by omega)) ?_
      refine tx_q 3 rfl (by kernel_rfl) rfl rfl rfl (fun _ _ _ h => h) (y_ixA01 64 (i := i - 16) rfl rfl (by kernel_rfl) (by omega)) ?_
      refine tx_l 4 rfl (by kernel_rfl) (by kernel_rfl) rfl rfl rfl (fun _ _ _ h => h) (fun _ h => h.sub (List.Sublist.refl _)) (y_load rfl rfl (hc (o := i - 16) (.head _) (gM (d := 0) lenP))) ?_
      refine tx_q 5 rfl (by kernel_rfl) rfl rfl rfl (fun _ _ _ h => h) (y_move rfl) ?_
      refine tx_q 6 rfl (by kernel_rfl) rfl rfl rfl (fun _ _ _ h => h) (y_subN (a := i) (b := 7) rfl rfl (by omega)) ?_
      refine tx_q 7 rfl (by kernel_rfl) rfl rfl rfl (fun _ _ _ h => h) (y_ixA01 64 (i := i - 7) rfl rfl (by kernel_rfl) (by omega)) ?_
      refine tx_l 8 rfl (by kernel_rfl) (by kernel_rfl) rfl rfl rfl (fun _ _ _ h => h) (fun _ h => h.sub (List.Sublist.refl _)) (y_load rfl rfl (hc (o := i - 7) (.head _) (gM (d := 0) lenP))) ?_
      refine tx_q 9 rfl (by kernel_rfl) rfl rfl rfl (fun _ _ _ h => h) (y_addW (a := (schedZ W i).getD (i - 16) 0) (b := (schedZ W i).getD (i - 7) 0) rfl rfl) ?_
      refine tx_q 10 rfl (by kernel_rfl) rfl rfl rfl (fun _ _ _ h => h) (y_move rfl) ?_
      refine tx_q 12 rfl (by kernel_rfl) rfl rfl rfl (fun _ _ _ h => h) (y_move rfl) ?_
      refine tx_q 15 rfl (by kernel_rfl) rfl rfl rfl (fun _ _ _ h => h) (y_move rfl) ?_
      refine tx_q 16 rfl (by kernel_rfl) rfl rfl rfl (fun _ _ _ h => h) (y_shrW (a := (schedZ W i).getD (i - 15) 0) (m := 3) rfl rfl (by decide)) ?_
      refine tx_q 19 rfl (by kernel_rfl) rfl rfl rfl (fun _ _ _ h => h) (y_move rfl) ?_
      refine tx_q 21 rfl (by kernel_rfl) rfl rfl rfl (fun _ _ _ h => h) (y_move rfl) ?_
      refine tx_q 24 rfl (by kernel_rfl) rfl rfl rfl (fun _ _ _ h => h) (y_move rfl) ?_
      refine tx_q 25 rfl (by kernel_rfl) rfl rfl rfl (fun _ _ _ h => h) (y_shrW (a := (schedZ W i).getD (i - 2) 0) (m := 10) rfl rfl (by decide)) ?_
      refine tx_a 11 rfl (by kernel_rfl) rfl ?_; refine a_callv [] _ rfl (by kernel_rfl) rfl (fun w' hw' => rot_spec ((schedZ W i).getD (i - 15) 0) 7 (by decide)) rfl fun _ _ => ?_
      refine tk_S (fun _ h => h.sub (List.Sublist.refl _)) ?_
      refine tx_a 13 rfl (by kernel_rfl) rfl ?_; refine a_callv [] _ rfl (by kernel_rfl) rfl (fun w' hw' => rot_spec ((schedZ W i).getD (i - 15) 0) 18 (by decide)) rfl fun _ _ => ?_
      refine tk_S (fun _ h => h.sub (List.Sublist.refl _)) ?_
      refine tx_q 14 rfl (by kernel_rfl) rfl rfl rfl (fun _ _ _ h => h) (y_xorW (a := rr ((schedZ W i).getD (i - 15) 0) 7) (b := rr ((schedZ W i).getD (i - 15) 0) 18) rfl rfl) ?_
      refine tx_q 17 rfl (by kernel_rfl) rfl rfl rfl (fun _ _ _ h => h) (y_xorW (a := (rr ((schedZ W i).getD (i - 15) 0) 7) ^^^ (rr ((schedZ W i).getD (i - 15) 0) 18)) (b := ((schedZ W i).getD (i - 15) 0) >>> UInt32.ofNat 3) rfl rfl) ?_
      refine tx_q 18 rfl (by kernel_rfl) rfl rfl rfl (fun _ _ _ h => h) (y_addW (a := ((schedZ W i).getD (i - 16) 0) + ((schedZ W i).getD (i - 7) 0)) (b := ((rr ((schedZ W i).getD (i - 15) 0) 7) ^^^ (rr ((schedZ W i).getD (i - 15) 0) 18)) ^^^ (((schedZ W i).getD (i - 15) 0) >>> UInt32.ofNat 3)) rfl rfl) ?_
      refine tx_a 20 rfl (by kernel_rfl) rfl ?_; refine a_callv [] _ rfl (by kernel_rfl) rfl (fun w' hw' => rot_spec ((schedZ W i).getD (i - 2) 0) 17 (by decide)) rfl fun _ _ => ?_
      refine tk_S (fun _ h => h.sub (List.Sublist.refl _)) ?_
      refine tx_a 22 rfl (by kernel_rfl) rfl ?_; refine a_callv [] _ rfl (by kernel_rfl) rfl (fun w' hw' => rot_spec ((schedZ W i).getD (i - 2) 0) 19 (by decide)) rfl fun _ _ => ?_
      refine tk_S (fun _ h => h.sub (List.Sublist.refl _)) ?_
      refine tx_q 23 rfl (by kernel_rfl) rfl rfl rfl (fun _ _ _ h => h) (y_xorW (a := rr ((schedZ W i).getD (i - 2) 0) 17) (b := rr ((schedZ W i).getD (i - 2) 0) 19) rfl rfl) ?_
      refine tx_q 26 rfl (by kernel_rfl) rfl rfl rfl (fun _ _ _ h => h) (y_xorW (a := (rr ((schedZ W i).getD (i - 2) 0) 17) ^^^ (rr ((schedZ W i).getD (i - 2) 0) 19)) (b := ((schedZ W i).getD (i - 2) 0) >>> UInt32.ofNat 10) rfl rfl) ?_
      refine tx_q 27 rfl (by kernel_rfl) rfl rfl rfl (fun _ _ _ h => h) (y_addW (a := (((schedZ W i).getD (i - 16) 0) + ((schedZ W i).getD (i - 7) 0)) + (((rr ((schedZ W i).getD (i - 15) 0) 7) ^^^ (rr ((schedZ W i).getD (i - 15) 0) 18)) ^^^ (((schedZ W i).getD (i - 15) 0) >>> UInt32.ofNat 3))) (b := ((rr ((schedZ W i).getD (i - 2) 0) 17) ^^^ (rr ((schedZ W i).getD (i - 2) 0) 19)) ^^^ (((schedZ W i).getD (i - 2) 0) >>> UInt32.ofNat 10)) rfl rfl) ?_
      refine tx_q 28 rfl (by kernel_rfl) rfl rfl rfl (fun _ _ _ h => h) (y_ixA01 64 (i := i) rfl rfl (by kernel_rfl) (by omega)) ?_
      refine tx_x 29 rfl (by kernel_rfl) rfl rfl ?_; refine a_storeE (H1 := []) (o := i) (v := W4 (((((schedZ W i).getD (i - 16) 0) + ((schedZ W i).getD (i - 7) 0)) + (((rr ((schedZ W i).getD (i - 15) 0) 7) ^^^ (rr ((schedZ W i).getD (i - 15) 0) 18)) ^^^ (((schedZ W i).getD (i - 15) 0) >>> UInt32.ofNat 3))) + (((rr ((schedZ W i).getD (i - 2) 0) 17) ^^^ (rr ((schedZ W i).getD (i - 2) 0) 19)) ^^^ (((schedZ W i).getD (i - 2) 0) >>> UInt32.ofNat 10)))) (cs' := ((schedZ W i).set i (((((schedZ W i).getD (i - 16) 0) + ((schedZ W i).getD (i - 7) 0)) + (((rr ((schedZ W i).getD (i - 15) 0) 7) ^^^ (rr ((schedZ W i).getD (i - 15) 0) 18)) ^^^ (((schedZ W i).getD (i - 15) 0) >>> UInt32.ofNat 3))) + (((rr ((schedZ W i).getD (i - 2) 0) 17) ^^^ (rr ((schedZ W i).getD (i - 2) 0) 19)) ^^^ (((schedZ W i).getD (i - 2) 0) >>> UInt32.ofNat 10)))).map W4) rfl rfl (by kernel_rfl) rfl rfl (by first | (simp; done) | (simp; omega)) (sM) ?_
      refine tx_done (by kernel_rfl) ?_
      refine tk_in_normal ?_
      refine tk_then ?_
      refine tk_region ?_
      refine tk_q rfl rfl rfl (y_addN (a := i) (b := 1) rfl rfl (by omega)) ?_
      refine tk_q rfl rfl rfl (y_move rfl) ?_
      refine tk_nil ?_
      refine tk_H [cel b2 ((schedZ W (i + 1)).map W4) 193, cel sb (R.map W4 ++ (W.map B ++ ([I ((n : Nat) : Int)]))) 172] (congrArg (fun z_ => [cel b2 z_ 193, cel sb (R.map W4 ++ (W.map B ++ ([I ((n : Nat) : Int)]))) 172]) (show ((schedZ W i).set i (((((schedZ W i).getD (i - 16) 0) + ((schedZ W i).getD (i - 7) 0)) + (((rr ((schedZ W i).getD (i - 15) 0) 7) ^^^ (rr ((schedZ W i).getD (i - 15) 0) 18)) ^^^ (((schedZ W i).getD (i - 15) 0) >>> UInt32.ofNat 3))) + (((rr ((schedZ W i).getD (i - 2) 0) 17) ^^^ (rr ((schedZ W i).getD (i - 2) 0) 19)) ^^^ (((schedZ W i).getD (i - 2) 0) >>> UInt32.ofNat 10)))).map W4 = (schedZ W (i + 1)).map W4 from congrArg (List.map W4) (schedZ_hi (by omega) (by omega)))) ?_
      exact tk_again (i + 1) (by first | exact trivial | omega | (dsimp only; omega)) (by first | omega | (dsimp only; omega)) (by repeat (first | exact trivial | refine ⟨rfl, ?_⟩)) (List.Sublist.refl _)
  · skip
    refine tk_H [cel b2 ((sched W 64).map W4) 193, cel sb (R.map W4 ++ (W.map B ++ ([I ((n : Nat) : Int)]))) 172] (congrArg (fun z_ => [cel b2 z_ 193, cel sb (R.map W4 ++ (W.map B ++ ([I ((n : Nat) : Int)]))) 172]) (show (schedZ W i).map W4 = (sched W 64).map W4 from by rw [show i = 64 by omega, schedZ_64])) ?_
    refine tk_exit ?_
    refine tk_then_exit ?_
    refine tk_then_exit ?_
    refine tk_in_hit ?_
    refine tk_then ?_
    refine tk_seq ?_
    refine tk_region ?_
    refine tk_q rfl rfl rfl (y_move rfl) ?_
    refine tk_q rfl rfl rfl (y_nilCheck rfl) ?_
    refine tk_q rfl rfl rfl (y_fld0 (o := 0) rfl (by kernel_rfl)) ?_
    refine tk_q rfl rfl rfl (y_loadA (vs := R.map W4) 8 rfl (by kernel_rfl) lenP (hseg (pre := ([] : List Value)) (post := W.map B ++ ([I ((n : Nat) : Int)])) (.tail _ (.head _)) lenP (by simp))) ?_
    refine tk_act rfl ?_; refine a_allocL (cs := (List.replicate 8 0).map W4) (by kernel_rfl) rfl fun b7 => ?_
    refine tk_act rfl ?_; refine a_storeW (H1 := []) (vs := R.map W4) 8 rfl rfl (by kernel_rfl) rfl ⟨lenP, lenP⟩ oneW ?_
    refine tk_nil ?_
    refine tk_then ?_
    refine tk_seq ?_
    refine tk_seq ?_
    refine tk_region ?_
    refine tk_q rfl rfl rfl (y_loadA 64 rfl (by kernel_rfl) lenP (hcw (.tail _ (.head _)))) ?_
    refine tk_q rfl rfl rfl (y_move rfl) ?_
    refine tk_nil ?_
    refine tk_then ?_
    refine tk_block ?_
    refine tk_H [cel b7 ((rounds R stepsL (sched W 64) 0).map W4) 170, cel b2 ((sched W 64).map W4) 193, cel sb (R.map W4 ++ (W.map B ++ ([I ((n : Nat) : Int)]))) 172] (congrArg (fun z_ => [cel b7 z_ 170, cel b2 ((sched W 64).map W4) 193, cel sb (R.map W4 ++ (W.map B ++ ([I ((n : Nat) : Int)]))) 172]) (show R.map W4 = (rounds R stepsL (sched W 64) 0).map W4 from by rw [rounds_0])) ?_
    refine tk_loop (X := Nat) (fun i => i ≤ 64) (fun i => [(0, .pointer (some ⟨sb, 0, none⟩)), (7, .pointer (some ⟨b7, 0, none⟩)), (92, .agg ((sched W 64).map W4).toArray), (93, I ((i : Nat) : Int))]) (fun i => [cel b7 ((rounds R stepsL (sched W 64) i).map W4) 170, cel b2 ((sched W 64).map W4) 193, cel sb (R.map W4 ++ (W.map B ++ ([I ((n : Nat) : Int)]))) 172]) (fun i => 64 - i) (0) (by first | exact trivial | omega | (dsimp only; omega)) (by repeat (first | exact trivial | refine ⟨rfl, ?_⟩)) ((List.Sublist.refl _)) ?_
    rintro i hI
    try dsimp only at hI ⊢
    have hv : (rounds R stepsL (sched W 64) i).length = 8 := rounds_len hR i
    have hz : (sched W 64).length = 64 := sched_len _ _
    refine tk_seq ?_
    refine tk_region ?_
    refine tk_q rfl rfl rfl (y_lss rfl rfl) ?_
    refine tk_nil ?_
    refine tk_then ?_
    refine tk_seq ?_
    refine tk_condP rfl (fun ht94 => ?_) (fun ht94 => ?_)
    · skip
      refine tk_skip ?_
      refine tk_then ?_
      refine tk_seq ?_
      refine tk_block ?_
      refine tk_seq ?_
      refine tk_region ?_
      refine tk_q rfl rfl rfl (y_move rfl) ?_
      refine tk_q rfl rfl rfl (y_ixVM (d0 := 0) (i := i) rfl rfl rfl rfl (fun _ => by kernel_rfl) (by omega) lenP) ?_
      refine tk_q rfl rfl rfl (y_assign rfl) ?_
      refine tk_q rfl rfl rfl (y_assign rfl) ?_
      refine tk_nil ?_
      refine tk_then ?_
      refine tk_seq ?_
      refine tk_drawH [cel b7 ((rounds R stepsL (sched W 64) i).map W4) 170, cel b2 ((sched W 64).map W4) 193, cel sb (R.map W4 ++ (W.map B ++ ([I ((n : Nat) : Int)]))) 172] [] (by kernel_rfl) ?_
      refine tx_q 0 rfl (by kernel_rfl) rfl rfl rfl (fun _ _ _ h => h) (y_ixAN 8 1 (o := 0) (i := 0) rfl rfl (by kernel_rfl) (by omega)) ?_
      refine tx_l 1 rfl (by kernel_rfl) (by kernel_rfl) rfl rfl rfl (fun _ _ _ h => h) (fun _ h => h.sub (List.Sublist.refl _)) (y_load rfl rfl (hc (o := 0) (.head _) (gM (d := 0) lenP))) ?_
      refine tx_q 2 rfl (by kernel_rfl) rfl rfl rfl (fun _ _ _ h => h) (y_ixAN 8 1 (o := 0) (i := 4) rfl rfl (by kernel_rfl) (by omega)) ?_
      refine tx_l 3 rfl (by kernel_rfl) (by kernel_rfl) rfl rfl rfl (fun _ _ _ h => h) (fun _ h => h.sub (List.Sublist.refl _)) (y_load rfl rfl (hc (o := 4) (.head _) (gM (d := 0) lenP))) ?_
      refine tx_q 4 rfl (by kernel_rfl) rfl rfl rfl (fun _ _ _ h => h) (y_assign rfl) ?_
      refine tx_q 5 rfl (by kernel_rfl) rfl rfl rfl (fun _ _ _ h => h) (y_assign rfl) ?_
      refine tx_done (by kernel_rfl) ?_
      refine tk_then ?_
      refine tk_seq ?_
      refine tk_drawH [cel b7 ((rounds R stepsL (sched W 64) i).map W4) 170, cel b2 ((sched W 64).map W4) 193, cel sb (R.map W4 ++ (W.map B ++ ([I ((n : Nat) : Int)]))) 172] [] (by kernel_rfl) ?_
      refine tx_q 0 rfl (by kernel_rfl) rfl rfl rfl (fun _ _ _ h => h) (y_ixAN 8 1 (o := 0) (i := 7) rfl rfl (by kernel_rfl) (by omega)) ?_
      refine tx_l 1 rfl (by kernel_rfl) (by kernel_rfl) rfl rfl rfl (fun _ _ _ h => h) (fun _ h => h.sub (List.Sublist.refl _)) (y_load rfl rfl (hc (o := 7) (.head _) (gM (d := 0) lenP))) ?_
      refine tx_q 2 rfl (by kernel_rfl) rfl rfl rfl (fun _ _ _ h => h) (y_move rfl) ?_
      refine tx_q 4 rfl (by kernel_rfl) rfl rfl rfl (fun _ _ _ h => h) (y_move rfl) ?_
      refine tx_q 7 rfl (by kernel_rfl) rfl rfl rfl (fun _ _ _ h => h) (y_move rfl) ?_
      refine tx_q 11 rfl (by kernel_rfl) rfl rfl rfl (fun _ _ _ h => h) (y_ixAN 8 1 (o := 0) (i := 6) rfl rfl (by kernel_rfl) (by omega)) ?_
      refine tx_l 12 rfl (by kernel_rfl) (by kernel_rfl) rfl rfl rfl (fun _ _ _ h => h) (fun _ h => h.sub (List.Sublist.refl _)) (y_load rfl rfl (hc (o := 6) (.head _) (gM (d := 0) lenP))) ?_
      refine tx_q 13 rfl (by kernel_rfl) rfl rfl rfl (fun _ _ _ h => h) (y_move rfl) ?_
      refine tx_q 14 rfl (by kernel_rfl) rfl rfl rfl (fun _ _ _ h => h) (y_ixAN 8 1 (o := 0) (i := 5) rfl rfl (by kernel_rfl) (by omega)) ?_
      refine tx_l 15 rfl (by kernel_rfl) (by kernel_rfl) rfl rfl rfl (fun _ _ _ h => h) (fun _ h => h.sub (List.Sublist.refl _)) (y_load rfl rfl (hc (o := 5) (.head _) (gM (d := 0) lenP))) ?_
      refine tx_q 16 rfl (by kernel_rfl) rfl rfl rfl (fun _ _ _ h => h) (y_ixAN 8 1 (o := 0) (i := 6) rfl rfl (by kernel_rfl) (by omega)) ?_
      refine tx_l 17 rfl (by kernel_rfl) (by kernel_rfl) rfl rfl rfl (fun _ _ _ h => h) (fun _ h => h.sub (List.Sublist.refl _)) (y_load rfl rfl (hc (o := 6) (.head _) (gM (d := 0) lenP))) ?_
      refine tx_q 18 rfl (by kernel_rfl) rfl rfl rfl (fun _ _ _ h => h) (y_xorW (a := (rounds R stepsL (sched W 64) i).getD 5 0) (b := (rounds R stepsL (sched W 64) i).getD 6 0) rfl rfl) ?_
      refine tx_q 19 rfl (by kernel_rfl) rfl rfl rfl (fun _ _ _ h => h) (y_andW (a := (rounds R stepsL (sched W 64) i).getD 4 0) (b := ((rounds R stepsL (sched W 64) i).getD 5 0) ^^^ ((rounds R stepsL (sched W 64) i).getD 6 0)) rfl rfl) ?_
      refine tx_q 20 rfl (by kernel_rfl) rfl rfl rfl (fun _ _ _ h => h) (y_xorW (a := (rounds R stepsL (sched W 64) i).getD 6 0) (b := ((rounds R stepsL (sched W 64) i).getD 4 0) &&& (((rounds R stepsL (sched W 64) i).getD 5 0) ^^^ ((rounds R stepsL (sched W 64) i).getD 6 0))) rfl rfl) ?_
      refine tx_q 22 rfl (by kernel_rfl) rfl rfl rfl (fun _ _ _ h => h) (y_move rfl) ?_
      refine tx_q 23 rfl (by kernel_rfl) rfl rfl rfl (fun _ _ _ h => h) (y_ixA01 64 (i := i) rfl rfl (by kernel_rfl) (by omega)) ?_
      refine tx_l 24 rfl (by kernel_rfl) (by kernel_rfl) rfl rfl rfl (fun _ _ _ h => h) (fun _ h => h.sub (List.Sublist.refl _)) (y_load rfl rfl (fun w hw => (Ro.st (p := glob) hg hw).2 _ _ (gM (d := 0) (by rw [stepsL_len]; omega)))) ?_
      refine tx_q 26 rfl (by kernel_rfl) rfl rfl rfl (fun _ _ _ h => h) (y_move rfl) ?_
      refine tx_a 3 rfl (by kernel_rfl) rfl ?_; refine a_callv [] _ rfl (by kernel_rfl) rfl (fun w' hw' => rot_spec ((rounds R stepsL (sched W 64) i).getD 4 0) 6 (by decide)) rfl fun _ _ => ?_
      refine tk_S (fun _ h => h.sub (List.Sublist.refl _)) ?_
      refine tx_a 5 rfl (by kernel_rfl) rfl ?_; refine a_callv [] _ rfl (by kernel_rfl) rfl (fun w' hw' => rot_spec ((rounds R stepsL (sched W 64) i).getD 4 0) 11 (by decide)) rfl fun _ _ => ?_
      refine tk_S (fun _ h => h.sub (List.Sublist.refl _)) ?_
      refine tx_q 6 rfl (by kernel_rfl) rfl rfl rfl (fun _ _ _ h => h) (y_xorW (a := rr ((rounds R stepsL (sched W 64) i).getD 4 0) 6) (b := rr ((rounds R stepsL (sched W 64) i).getD 4 0) 11) rfl rfl) ?_
      refine tx_a 8 rfl (by kernel_rfl) rfl ?_; refine a_callv [] _ rfl (by kernel_rfl) rfl (fun w' hw' => rot_spec ((rounds R stepsL (sched W 64) i).getD 4 0) 25 (by decide)) rfl fun _ _ => ?_
      refine tk_S (fun _ h => h.sub (List.Sublist.refl _)) ?_
      refine tx_q 9 rfl (by kernel_rfl) rfl rfl rfl (fun _ _ _ h => h) (y_xorW (a := (rr ((rounds R stepsL (sched W 64) i).getD 4 0) 6) ^^^ (rr ((rounds R stepsL (sched W 64) i).getD 4 0) 11)) (b := rr ((rounds R stepsL (sched W 64) i).getD 4 0) 25) rfl rfl) ?_
      refine tx_q 10 rfl (by kernel_rfl) rfl rfl rfl (fun _ _ _ h => h) (y_addW (a := (rounds R stepsL (sched W 64) i).getD 7 0) (b := ((rr ((rounds R stepsL (sched W 64) i).getD 4 0) 6) ^^^ (rr ((rounds R stepsL (sched W 64) i).getD 4 0) 11)) ^^^ (rr ((rounds R stepsL (sched W 64) i).getD 4 0) 25)) rfl rfl) ?_
      refine tx_q 21 rfl (by kernel_rfl) rfl rfl rfl (fun _ _ _ h => h) (y_addW (a := ((rounds R stepsL (sched W 64) i).getD 7 0) + (((rr ((rounds R stepsL (sched W 64) i).getD 4 0) 6) ^^^ (rr ((rounds R stepsL (sched W 64) i).getD 4 0) 11)) ^^^ (rr ((rounds R stepsL (sched W 64) i).getD 4 0) 25))) (b := ((rounds R stepsL (sched W 64) i).getD 6 0) ^^^ (((rounds R stepsL (sched W 64) i).getD 4 0) &&& (((rounds R stepsL (sched W 64) i).getD 5 0) ^^^ ((rounds R stepsL (sched W 64) i).getD 6 0)))) rfl rfl) ?_
      refine tx_q 25 rfl (by kernel_rfl) rfl rfl rfl (fun _ _ _ h => h) (y_addW (a := (((rounds R stepsL (sched W 64) i).getD 7 0) + (((rr ((rounds R stepsL (sched W 64) i).getD 4 0) 6) ^^^ (rr ((rounds R stepsL (sched W 64) i).getD 4 0) 11)) ^^^ (rr ((rounds R stepsL (sched W 64) i).getD 4 0) 25))) + (((rounds R stepsL (sched W 64) i).getD 6 0) ^^^ (((rounds R stepsL (sched W 64) i).getD 4 0) &&& (((rounds R stepsL (sched W 64) i).getD 5 0) ^^^ ((rounds R stepsL (sched W 64) i).getD 6 0))))) (b := stepsL.getD i 0) rfl rfl) ?_
      refine tx_q 27 rfl (by kernel_rfl) rfl rfl rfl (fun _ _ _ h => h) (y_addW (a := ((((rounds R stepsL (sched W 64) i).getD 7 0) + (((rr ((rounds R stepsL (sched W 64) i).getD 4 0) 6) ^^^ (rr ((rounds R stepsL (sched W 64) i).getD 4 0) 11)) ^^^ (rr ((rounds R stepsL (sched W 64) i).getD 4 0) 25))) + (((rounds R stepsL (sched W 64) i).getD 6 0) ^^^ (((rounds R stepsL (sched W 64) i).getD 4 0) &&& (((rounds R stepsL (sched W 64) i).getD 5 0) ^^^ ((rounds R stepsL (sched W 64) i).getD 6 0))))) + (stepsL.getD i 0)) (b := (sched W 64).getD i 0) rfl rfl) ?_
      refine tx_q 28 rfl (by kernel_rfl) rfl rfl rfl (fun _ _ _ h => h) (y_assign rfl) ?_
      refine tx_done (by kernel_rfl) ?_
      refine tk_then ?_
      refine tk_seq ?_
      refine tk_drawH [cel b7 ((rounds R stepsL (sched W 64) i).map W4) 170, cel b2 ((sched W 64).map W4) 193, cel sb (R.map W4 ++ (W.map B ++ ([I ((n : Nat) : Int)]))) 172] [] (by kernel_rfl) ?_
      refine tx_q 0 rfl (by kernel_rfl) rfl rfl rfl (fun _ _ _ h => h) (y_move rfl) ?_
      refine tx_q 2 rfl (by kernel_rfl) rfl rfl rfl (fun _ _ _ h => h) (y_move rfl) ?_
      refine tx_q 5 rfl (by kernel_rfl) rfl rfl rfl (fun _ _ _ h => h) (y_move rfl) ?_
      refine tx_q 8 rfl (by kernel_rfl) rfl rfl rfl (fun _ _ _ h => h) (y_move rfl) ?_
      refine tx_q 9 rfl (by kernel_rfl) rfl rfl rfl (fun _ _ _ h => h) (y_ixAN 8 1 (o := 0) (i := 1) rfl rfl (by kernel_rfl) (by omega)) ?_
      refine tx_l 10 rfl (by kernel_rfl) (by kernel_rfl) rfl rfl rfl (fun _ _ _ h => h) (fun _ h => h.sub (List.Sublist.refl _)) (y_load rfl rfl (hc (o := 1) (.head _) (gM (d := 0) lenP))) ?_
      refine tx_q 11 rfl (by kernel_rfl) rfl rfl rfl (fun _ _ _ h => h) (y_andW (a := (rounds R stepsL (sched W 64) i).getD 0 0) (b := (rounds R stepsL (sched W 64) i).getD 1 0) rfl rfl) ?_
      refine tx_q 12 rfl (by kernel_rfl) rfl rfl rfl (fun _ _ _ h => h) (y_ixAN 8 1 (o := 0) (i := 2) rfl rfl (by kernel_rfl) (by omega)) ?_
      refine tx_l 13 rfl (by kernel_rfl) (by kernel_rfl) rfl rfl rfl (fun _ _ _ h => h) (fun _ h => h.sub (List.Sublist.refl _)) (y_load rfl rfl (hc (o := 2) (.head _) (gM (d := 0) lenP))) ?_
      refine tx_q 14 rfl (by kernel_rfl) rfl rfl rfl (fun _ _ _ h => h) (y_move rfl) ?_
      refine tx_q 15 rfl (by kernel_rfl) rfl rfl rfl (fun _ _ _ h => h) (y_ixAN 8 1 (o := 0) (i := 1) rfl rfl (by kernel_rfl) (by omega)) ?_
      refine tx_l 16 rfl (by kernel_rfl) (by kernel_rfl) rfl rfl rfl (fun _ _ _ h => h) (fun _ h => h.sub (List.Sublist.refl _)) (y_load rfl rfl (hc (o := 1) (.head _) (gM (d := 0) lenP))) ?_
      refine tx_q 17 rfl (by kernel_rfl) rfl rfl rfl (fun _ _ _ h => h) (y_orW (a := (rounds R stepsL (sched W 64) i).getD 0 0) (b := (rounds R stepsL (sched W 64) i).getD 1 0) rfl rfl) ?_
      refine tx_q 18 rfl (by kernel_rfl) rfl rfl rfl (fun _ _ _ h => h) (y_andW (a := (rounds R stepsL (sched W 64) i).getD 2 0) (b := ((rounds R stepsL (sched W 64) i).getD 0 0) ||| ((rounds R stepsL (sched W 64) i).getD 1 0)) rfl rfl) ?_
      refine tx_q 19 rfl (by kernel_rfl) rfl rfl rfl (fun _ _ _ h => h) (y_orW (a := ((rounds R stepsL (sched W 64) i).getD 0 0) &&& ((rounds R stepsL (sched W 64) i).getD 1 0)) (b := ((rounds R stepsL (sched W 64) i).getD 2 0) &&& (((rounds R stepsL (sched W 64) i).getD 0 0) ||| ((rounds R stepsL (sched W 64) i).getD 1 0))) rfl rfl) ?_
      refine tx_a 1 rfl (by kernel_rfl) rfl ?_; refine a_callv [] _ rfl (by kernel_rfl) rfl (fun w' hw' => rot_spec ((rounds R stepsL (sched W 64) i).getD 0 0) 2 (by decide)) rfl fun _ _ => ?_
      refine tk_S (fun _ h => h.sub (List.Sublist.refl _)) ?_
      refine tx_a 3 rfl (by kernel_rfl) rfl ?_; refine a_callv [] _ rfl (by kernel_rfl) rfl (fun w' hw' => rot_spec ((rounds R stepsL (sched W 64) i).getD 0 0) 13 (by decide)) rfl fun _ _ => ?_
      refine tk_S (fun _ h => h.sub (List.Sublist.refl _)) ?_
      refine tx_q 4 rfl (by kernel_rfl) rfl rfl rfl (fun _ _ _ h => h) (y_xorW (a := rr ((rounds R stepsL (sched W 64) i).getD 0 0) 2) (b := rr ((rounds R stepsL (sched W 64) i).getD 0 0) 13) rfl rfl) ?_
      refine tx_a 6 rfl (by kernel_rfl) rfl ?_; refine a_callv [] _ rfl (by kernel_rfl) rfl (fun w' hw' => rot_spec ((rounds R stepsL (sched W 64) i).getD 0 0) 22 (by decide)) rfl fun _ _ => ?_
      refine tk_S (fun _ h => h.sub (List.Sublist.refl _)) ?_
      refine tx_q 7 rfl (by kernel_rfl) rfl rfl rfl (fun _ _ _ h => h) (y_xorW (a := (rr ((rounds R stepsL (sched W 64) i).getD 0 0) 2) ^^^ (rr ((rounds R stepsL (sched W 64) i).getD 0 0) 13)) (b := rr ((rounds R stepsL (sched W 64) i).getD 0 0) 22) rfl rfl) ?_
      refine tx_q 20 rfl (by kernel_rfl) rfl rfl rfl (fun _ _ _ h => h) (y_addW (a := ((rr ((rounds R stepsL (sched W 64) i).getD 0 0) 2) ^^^ (rr ((rounds R stepsL (sched W 64) i).getD 0 0) 13)) ^^^ (rr ((rounds R stepsL (sched W 64) i).getD 0 0) 22)) (b := (((rounds R stepsL (sched W 64) i).getD 0 0) &&& ((rounds R stepsL (sched W 64) i).getD 1 0)) ||| (((rounds R stepsL (sched W 64) i).getD 2 0) &&& (((rounds R stepsL (sched W 64) i).getD 0 0) ||| ((rounds R stepsL (sched W 64) i).getD 1 0)))) rfl rfl) ?_
      refine tx_q 21 rfl (by kernel_rfl) rfl rfl rfl (fun _ _ _ h => h) (y_assign rfl) ?_
      refine tx_done (by kernel_rfl) ?_
      refine tk_then ?_
      refine tk_seq ?_
      refine tk_drawH [cel b2 ((sched W 64).map W4) 193, cel sb (R.map W4 ++ (W.map B ++ ([I ((n : Nat) : Int)]))) 172] [] (by kernel_rfl) ?_
      refine tx_q 0 rfl (by kernel_rfl) rfl rfl rfl (fun _ _ _ h => h) (y_cutAlN1 (o := 0) 8 1 1 rfl rfl (by kernel_rfl) ⟨rfl, (by omega)⟩) ?_
      refine tx_q 1 rfl (by kernel_rfl) rfl rfl rfl (fun _ _ _ h => h) (y_cutAhN (o := 0) 8 1 7 rfl rfl (by kernel_rfl) ⟨rfl, (by omega)⟩) ?_
      refine tx_a 2 rfl (by kernel_rfl) rfl ?_; refine a_copyR (H1 := []) (pre := ((rounds R stepsL (sched W 64) i).take 1).map W4) (mid := ((rounds R stepsL (sched W 64) i).drop 1).map W4) (post := []) (vs := ((rounds R stepsL (sched W 64) i).take 7).map W4) (us := ((rounds R stepsL (sched W 64) i).take 7).map W4) (cs' := ((rounds R stepsL (sched W 64) i).take 1 ++ (rounds R stepsL (sched W 64) i).take 7).map W4) (m := 7) rfl rfl rfl (by kernel_rfl) rfl rfl (fun w hw => cel_rdE (o := 0) (vs := ((rounds R stepsL (sched W 64) i).take 7).map W4) (hw.mem (.head _)) (by rw [List.drop_zero, List.length_map, List.length_take, hv, List.map_take]; rfl) (by simp [hv]) (by omega)) (by simp [hv]) (by rw [← List.map_take, List.take_take]; rfl) oneW ⟨by simp [hv], by simp [hv]⟩ (by rw [List.append_nil, ← List.map_append, List.take_append_drop]) (by rw [List.append_nil, ← List.map_append]) ?_
      refine tk_S (fun _ h => h.sub (.cons _ (List.Sublist.refl _))) ?_
      refine tx_done (by kernel_rfl) ?_
      refine tk_then ?_
      refine tk_seq ?_
      refine tk_region ?_
      refine tk_q rfl rfl rfl (y_move rfl) ?_
      refine tk_q rfl rfl rfl (y_move rfl) ?_
      refine tk_q rfl rfl rfl (y_addW (a := (((((rounds R stepsL (sched W 64) i).getD 7 0) + (((rr ((rounds R stepsL (sched W 64) i).getD 4 0) 6) ^^^ (rr ((rounds R stepsL (sched W 64) i).getD 4 0) 11)) ^^^ (rr ((rounds R stepsL (sched W 64) i).getD 4 0) 25))) + (((rounds R stepsL (sched W 64) i).getD 6 0) ^^^ (((rounds R stepsL (sched W 64) i).getD 4 0) &&& (((rounds R stepsL (sched W 64) i).getD 5 0) ^^^ ((rounds R stepsL (sched W 64) i).getD 6 0))))) + (stepsL.getD i 0)) + ((sched W 64).getD i 0)) (b := (((rr ((rounds R stepsL (sched W 64) i).getD 0 0) 2) ^^^ (rr ((rounds R stepsL (sched W 64) i).getD 0 0) 13)) ^^^ (rr ((rounds R stepsL (sched W 64) i).getD 0 0) 22)) + ((((rounds R stepsL (sched W 64) i).getD 0 0) &&& ((rounds R stepsL (sched W 64) i).getD 1 0)) ||| (((rounds R stepsL (sched W 64) i).getD 2 0) &&& (((rounds R stepsL (sched W 64) i).getD 0 0) ||| ((rounds R stepsL (sched W 64) i).getD 1 0))))) rfl rfl) ?_
      refine tk_q rfl rfl rfl (y_ixAN 8 1 (o := 0) (i := 0) rfl rfl (by kernel_rfl) (by omega)) ?_
      refine tk_act rfl ?_; refine a_storeE (H1 := []) (o := 0) (v := W4 (((((((rounds R stepsL (sched W 64) i).getD 7 0) + (((rr ((rounds R stepsL (sched W 64) i).getD 4 0) 6) ^^^ (rr ((rounds R stepsL (sched W 64) i).getD 4 0) 11)) ^^^ (rr ((rounds R stepsL (sched W 64) i).getD 4 0) 25))) + (((rounds R stepsL (sched W 64) i).getD 6 0) ^^^ (((rounds R stepsL (sched W 64) i).getD 4 0) &&& (((rounds R stepsL (sched W 64) i).getD 5 0) ^^^ ((rounds R stepsL (sched W 64) i).getD 6 0))))) + (stepsL.getD i 0)) + ((sched W 64).getD i 0)) + ((((rr ((rounds R stepsL (sched W 64) i).getD 0 0) 2) ^^^ (rr ((rounds R stepsL (sched W 64) i).getD 0 0) 13)) ^^^ (rr ((rounds R stepsL (sched W 64) i).getD 0 0) 22)) + ((((rounds R stepsL (sched W 64) i).getD 0 0) &&& ((rounds R stepsL (sched W 64) i).getD 1 0)) ||| (((rounds R stepsL (sched W 64) i).getD 2 0) &&& (((rounds R stepsL (sched W 64) i).getD 0 0) ||| ((rounds R stepsL (sched W 64) i).getD 1 0))))))) (cs' := (((rounds R stepsL (sched W 64) i).take 1 ++ (rounds R stepsL (sched W 64) i).take 7).set 0 (((((((rounds R stepsL (sched W 64) i).getD 7 0) + (((rr ((rounds R stepsL (sched W 64) i).getD 4 0) 6) ^^^ (rr ((rounds R stepsL (sched W 64) i).getD 4 0) 11)) ^^^ (rr ((rounds R stepsL (sched W 64) i).getD 4 0) 25))) + (((rounds R stepsL (sched W 64) i).getD 6 0) ^^^ (((rounds R stepsL (sched W 64) i).getD 4 0) &&& (((rounds R stepsL (sched W 64) i).getD 5 0) ^^^ ((rounds R stepsL (sched W 64) i).getD 6 0))))) + (stepsL.getD i 0)) + ((sched W 64).getD i 0)) + ((((rr ((rounds R stepsL (sched W 64) i).getD 0 0) 2) ^^^ (rr ((rounds R stepsL (sched W 64) i).getD 0 0) 13)) ^^^ (rr ((rounds R stepsL (sched W 64) i).getD 0 0) 22)) + ((((rounds R stepsL (sched W 64) i).getD 0 0) &&& ((rounds R stepsL (sched W 64) i).getD 1 0)) ||| (((rounds R stepsL (sched W 64) i).getD 2 0) &&& (((rounds R stepsL (sched W 64) i).getD 0 0) ||| ((rounds R stepsL (sched W 64) i).getD 1 0))))))).map W4) rfl rfl (by kernel_rfl) rfl rfl (by first | (simp; done) | (simp; omega)) (sM) ?_
      refine tk_nil ?_
      refine tk_then ?_
      refine tk_region ?_
      refine tk_q rfl rfl rfl (y_ixAN 8 1 (o := 0) (i := 4) rfl rfl (by kernel_rfl) (by omega)) ?_
      refine tk_q rfl rfl rfl (y_load rfl rfl (hc (o := 4) (.head _) (gM (d := 0) lenP))) ?_
      refine tk_q rfl rfl rfl (y_move rfl) ?_
      refine tk_q rfl rfl rfl (y_addW (a := (((rounds R stepsL (sched W 64) i).take 1 ++ (rounds R stepsL (sched W 64) i).take 7).set 0 (((((((rounds R stepsL (sched W 64) i).getD 7 0) + (((rr ((rounds R stepsL (sched W 64) i).getD 4 0) 6) ^^^ (rr ((rounds R stepsL (sched W 64) i).getD 4 0) 11)) ^^^ (rr ((rounds R stepsL (sched W 64) i).getD 4 0) 25))) + (((rounds R stepsL (sched W 64) i).getD 6 0) ^^^ (((rounds R stepsL (sched W 64) i).getD 4 0) &&& (((rounds R stepsL (sched W 64) i).getD 5 0) ^^^ ((rounds R stepsL (sched W 64) i).getD 6 0))))) + (stepsL.getD i 0)) + ((sched W 64).getD i 0)) + ((((rr ((rounds R stepsL (sched W 64) i).getD 0 0) 2) ^^^ (rr ((rounds R stepsL (sched W 64) i).getD 0 0) 13)) ^^^ (rr ((rounds R stepsL (sched W 64) i).getD 0 0) 22)) + ((((rounds R stepsL (sched W 64) i).getD 0 0) &&& ((rounds R stepsL (sched W 64) i).getD 1 0)) ||| (((rounds R stepsL (sched W 64) i).getD 2 0) &&& (((rounds R stepsL (sched W 64) i).getD 0 0) ||| ((rounds R stepsL (sched W 64) i).getD 1 0))))))).getD 4 0) (b := (((((rounds R stepsL (sched W 64) i).getD 7 0) + (((rr ((rounds R stepsL (sched W 64) i).getD 4 0) 6) ^^^ (rr ((rounds R stepsL (sched W 64) i).getD 4 0) 11)) ^^^ (rr ((rounds R stepsL (sched W 64) i).getD 4 0) 25))) + (((rounds R stepsL (sched W 64) i).getD 6 0) ^^^ (((rounds R stepsL (sched W 64) i).getD 4 0) &&& (((rounds R stepsL (sched W 64) i).getD 5 0) ^^^ ((rounds R stepsL (sched W 64) i).getD 6 0))))) + (stepsL.getD i 0)) + ((sched W 64).getD i 0)) rfl rfl) ?_
      refine tk_q rfl rfl rfl (y_ixAN 8 1 (o := 0) (i := 4) rfl rfl (by kernel_rfl) (by omega)) ?_
      refine tk_act rfl ?_; refine a_storeE (H1 := []) (o := 4) (v := W4 (((((rounds R stepsL (sched W 64) i).take 1 ++ (rounds R stepsL (sched W 64) i).take 7).set 0 (((((((rounds R stepsL (sched W 64) i).getD 7 0) + (((rr ((rounds R stepsL (sched W 64) i).getD 4 0) 6) ^^^ (rr ((rounds R stepsL (sched W 64) i).getD 4 0) 11)) ^^^ (rr ((rounds R stepsL (sched W 64) i).getD 4 0) 25))) + (((rounds R stepsL (sched W 64) i).getD 6 0) ^^^ (((rounds R stepsL (sched W 64) i).getD 4 0) &&& (((rounds R stepsL (sched W 64) i).getD 5 0) ^^^ ((rounds R stepsL (sched W 64) i).getD 6 0))))) + (stepsL.getD i 0)) + ((sched W 64).getD i 0)) + ((((rr ((rounds R stepsL (sched W 64) i).getD 0 0) 2) ^^^ (rr ((rounds R stepsL (sched W 64) i).getD 0 0) 13)) ^^^ (rr ((rounds R stepsL (sched W 64) i).getD 0 0) 22)) + ((((rounds R stepsL (sched W 64) i).getD 0 0) &&& ((rounds R stepsL (sched W 64) i).getD 1 0)) ||| (((rounds R stepsL (sched W 64) i).getD 2 0) &&& (((rounds R stepsL (sched W 64) i).getD 0 0) ||| ((rounds R stepsL (sched W 64) i).getD 1 0))))))).getD 4 0) + ((((((rounds R stepsL (sched W 64) i).getD 7 0) + (((rr ((rounds R stepsL (sched W 64) i).getD 4 0) 6) ^^^ (rr ((rounds R stepsL (sched W 64) i).getD 4 0) 11)) ^^^ (rr ((rounds R stepsL (sched W 64) i).getD 4 0) 25))) + (((rounds R stepsL (sched W 64) i).getD 6 0) ^^^ (((rounds R stepsL (sched W 64) i).getD 4 0) &&& (((rounds R stepsL (sched W 64) i).getD 5 0) ^^^ ((rounds R stepsL (sched W 64) i).getD 6 0))))) + (stepsL.getD i 0)) + ((sched W 64).getD i 0)))) (cs' := ((((rounds R stepsL (sched W 64) i).take 1 ++ (rounds R stepsL (sched W 64) i).take 7).set 0 (((((((rounds R stepsL (sched W 64) i).getD 7 0) + (((rr ((rounds R stepsL (sched W 64) i).getD 4 0) 6) ^^^ (rr ((rounds R stepsL (sched W 64) i).getD 4 0) 11)) ^^^ (rr ((rounds R stepsL (sched W 64) i).getD 4 0) 25))) + (((rounds R stepsL (sched W 64) i).getD 6 0) ^^^ (((rounds R stepsL (sched W 64) i).getD 4 0) &&& (((rounds R stepsL (sched W 64) i).getD 5 0) ^^^ ((rounds R stepsL (sched W 64) i).getD 6 0))))) + (stepsL.getD i 0)) + ((sched W 64).getD i 0)) + ((((rr ((rounds R stepsL (sched W 64) i).getD 0 0) 2) ^^^ (rr ((rounds R stepsL (sched W 64) i).getD 0 0) 13)) ^^^ (rr ((rounds R stepsL (sched W 64) i).getD 0 0) 22)) + ((((rounds R stepsL (sched W 64) i).getD 0 0) &&& ((rounds R stepsL (sched W 64) i).getD 1 0)) ||| (((rounds R stepsL (sched W 64) i).getD 2 0) &&& (((rounds R stepsL (sched W 64) i).getD 0 0) ||| ((rounds R stepsL (sched W 64) i).getD 1 0))))))).set 4 (((((rounds R stepsL (sched W 64) i).take 1 ++ (rounds R stepsL (sched W 64) i).take 7).set 0 (((((((rounds R stepsL (sched W 64) i).getD 7 0) + (((rr ((rounds R stepsL (sched W 64) i).getD 4 0) 6) ^^^ (rr ((rounds R stepsL (sched W 64) i).getD 4 0) 11)) ^^^ (rr ((rounds R stepsL (sched W 64) i).getD 4 0) 25))) + (((rounds R stepsL (sched W 64) i).getD 6 0) ^^^ (((rounds R stepsL (sched W 64) i).getD 4 0) &&& (((rounds R stepsL (sched W 64) i).getD 5 0) ^^^ ((rounds R stepsL (sched W 64) i).getD 6 0))))) + (stepsL.getD i 0)) + ((sched W 64).getD i 0)) + ((((rr ((rounds R stepsL (sched W 64) i).getD 0 0) 2) ^^^ (rr ((rounds R stepsL (sched W 64) i).getD 0 0) 13)) ^^^ (rr ((rounds R stepsL (sched W 64) i).getD 0 0) 22)) + ((((rounds R stepsL (sched W 64) i).getD 0 0) &&& ((rounds R stepsL (sched W 64) i).getD 1 0)) ||| (((rounds R stepsL (sched W 64) i).getD 2 0) &&& (((rounds R stepsL (sched W 64) i).getD 0 0) ||| ((rounds R stepsL (sched W 64) i).getD 1 0))))))).getD 4 0) + ((((((rounds R stepsL (sched W 64) i).getD 7 0) + (((rr ((rounds R stepsL (sched W 64) i).getD 4 0) 6) ^^^ (rr ((rounds R stepsL (sched W 64) i).getD 4 0) 11)) ^^^ (rr ((rounds R stepsL (sched W 64) i).getD 4 0) 25))) + (((rounds R stepsL (sched W 64) i).getD 6 0) ^^^ (((rounds R stepsL (sched W 64) i).getD 4 0) &&& (((rounds R stepsL (sched W 64) i).getD 5 0) ^^^ ((rounds R stepsL (sched W 64) i).getD 6 0))))) + (stepsL.getD i 0)) + ((sched W 64).getD i 0)))).map W4) rfl rfl (by kernel_rfl) rfl rfl (by first | (simp; done) | (simp; omega)) (sM) ?_
      refine tk_nil ?_
      refine tk_in_normal ?_
      refine tk_then ?_
      refine tk_region ?_
      refine tk_q rfl rfl rfl (y_addN (a := i) (b := 1) rfl rfl (by omega)) ?_
      refine tk_q rfl rfl rfl (y_move rfl) ?_
      refine tk_nil ?_
      refine tk_H [cel b7 ((rounds R stepsL (sched W 64) (i + 1)).map W4) 170, cel b2 ((sched W 64).map W4) 193, cel sb (R.map W4 ++ (W.map B ++ ([I ((n : Nat) : Int)]))) 172] (congrArg (fun z_ => [cel b7 z_ 170, cel b2 ((sched W 64).map W4) 193, cel sb (R.map W4 ++ (W.map B ++ ([I ((n : Nat) : Int)]))) 172]) (show ((((rounds R stepsL (sched W 64) i).take 1 ++ (rounds R stepsL (sched W 64) i).take 7).set 0 (((((((rounds R stepsL (sched W 64) i).getD 7 0) + (((rr ((rounds R stepsL (sched W 64) i).getD 4 0) 6) ^^^ (rr ((rounds R stepsL (sched W 64) i).getD 4 0) 11)) ^^^ (rr ((rounds R stepsL (sched W 64) i).getD 4 0) 25))) + (((rounds R stepsL (sched W 64) i).getD 6 0) ^^^ (((rounds R stepsL (sched W 64) i).getD 4 0) &&& (((rounds R stepsL (sched W 64) i).getD 5 0) ^^^ ((rounds R stepsL (sched W 64) i).getD 6 0))))) + (stepsL.getD i 0)) + ((sched W 64).getD i 0)) + ((((rr ((rounds R stepsL (sched W 64) i).getD 0 0) 2) ^^^ (rr ((rounds R stepsL (sched W 64) i).getD 0 0) 13)) ^^^ (rr ((rounds R stepsL (sched W 64) i).getD 0 0) 22)) + ((((rounds R stepsL (sched W 64) i).getD 0 0) &&& ((rounds R stepsL (sched W 64) i).getD 1 0)) ||| (((rounds R stepsL (sched W 64) i).getD 2 0) &&& (((rounds R stepsL (sched W 64) i).getD 0 0) ||| ((rounds R stepsL (sched W 64) i).getD 1 0))))))).set 4 (((((rounds R stepsL (sched W 64) i).take 1 ++ (rounds R stepsL (sched W 64) i).take 7).set 0 (((((((rounds R stepsL (sched W 64) i).getD 7 0) + (((rr ((rounds R stepsL (sched W 64) i).getD 4 0) 6) ^^^ (rr ((rounds R stepsL (sched W 64) i).getD 4 0) 11)) ^^^ (rr ((rounds R stepsL (sched W 64) i).getD 4 0) 25))) + (((rounds R stepsL (sched W 64) i).getD 6 0) ^^^ (((rounds R stepsL (sched W 64) i).getD 4 0) &&& (((rounds R stepsL (sched W 64) i).getD 5 0) ^^^ ((rounds R stepsL (sched W 64) i).getD 6 0))))) + (stepsL.getD i 0)) + ((sched W 64).getD i 0)) + ((((rr ((rounds R stepsL (sched W 64) i).getD 0 0) 2) ^^^ (rr ((rounds R stepsL (sched W 64) i).getD 0 0) 13)) ^^^ (rr ((rounds R stepsL (sched W 64) i).getD 0 0) 22)) + ((((rounds R stepsL (sched W 64) i).getD 0 0) &&& ((rounds R stepsL (sched W 64) i).getD 1 0)) ||| (((rounds R stepsL (sched W 64) i).getD 2 0) &&& (((rounds R stepsL (sched W 64) i).getD 0 0) ||| ((rounds R stepsL (sched W 64) i).getD 1 0))))))).getD 4 0) + ((((((rounds R stepsL (sched W 64) i).getD 7 0) + (((rr ((rounds R stepsL (sched W 64) i).getD 4 0) 6) ^^^ (rr ((rounds R stepsL (sched W 64) i).getD 4 0) 11)) ^^^ (rr ((rounds R stepsL (sched W 64) i).getD 4 0) 25))) + (((rounds R stepsL (sched W 64) i).getD 6 0) ^^^ (((rounds R stepsL (sched W 64) i).getD 4 0) &&& (((rounds R stepsL (sched W 64) i).getD 5 0) ^^^ ((rounds R stepsL (sched W 64) i).getD 6 0))))) + (stepsL.getD i 0)) + ((sched W 64).getD i 0)))).map W4 = (rounds R stepsL (sched W 64) (i + 1)).map W4 from congrArg (List.map W4) ((rstep_prog (rounds_len hR i) (stepsL.getD i 0) ((sched W 64).getD i 0) rfl rfl).trans rounds_succ.symm))) ?_
      exact tk_again (i + 1) (by first | exact trivial | omega | (dsimp only; omega)) (by first | omega | (dsimp only; omega)) (by repeat (first | exact trivial | refine ⟨rfl, ?_⟩)) (List.Sublist.refl _)
    · skip
      refine tk_H [cel b7 ((rounds R stepsL (sched W 64) 64).map W4) 170, cel b2 ((sched W 64).map W4) 193, cel sb (R.map W4 ++ (W.map B ++ ([I ((n : Nat) : Int)]))) 172] (congrArg (fun z_ => [cel b7 z_ 170, cel b2 ((sched W 64).map W4) 193, cel sb (R.map W4 ++ (W.map B ++ ([I ((n : Nat) : Int)]))) 172]) (show (rounds R stepsL (sched W 64) i).map W4 = (rounds R stepsL (sched W 64) 64).map W4 from by rw [show i = 64 by omega])) ?_
      refine tk_exit ?_
      refine tk_then_exit ?_
      refine tk_then_exit ?_
      refine tk_in_hit ?_
      refine tk_then ?_
      refine tk_seq ?_
      refine tk_region ?_
      refine tk_q rfl rfl rfl (y_move rfl) ?_
      refine tk_nil ?_
      refine tk_then ?_
      refine tk_block ?_
      refine tk_H [cel b7 ((rounds R stepsL (sched W 64) 64).map W4) 170, cel b2 ((sched W 64).map W4) 193, cel sb ((addI R (rounds R stepsL (sched W 64) 64) 0).map W4 ++ (W.map B ++ ([I ((n : Nat) : Int)]))) 172] (congrArg (fun z_ => [cel b7 ((rounds R stepsL (sched W 64) 64).map W4) 170, cel b2 ((sched W 64).map W4) 193, cel sb z_ 172]) (show R.map W4 ++ (W.map B ++ ([I ((n : Nat) : Int)])) = (addI R (rounds R stepsL (sched W 64) 64) 0).map W4 ++ (W.map B ++ ([I ((n : Nat) : Int)])) from by rw [addI_0 hR])) ?_
      refine tk_loop (X := Nat) (fun i => i ≤ 8) (fun i => [(0, .pointer (some ⟨sb, 0, none⟩)), (7, .pointer (some ⟨b7, 0, none⟩)), (163, I ((i : Nat) : Int))]) (fun i => [cel b7 ((rounds R stepsL (sched W 64) 64).map W4) 170, cel b2 ((sched W 64).map W4) 193, cel sb ((addI R (rounds R stepsL (sched W 64) 64) i).map W4 ++ (W.map B ++ ([I ((n : Nat) : Int)]))) 172]) (fun i => 8 - i) (0) (by first | exact trivial | omega | (dsimp only; omega)) (by repeat (first | exact trivial | refine ⟨rfl, ?_⟩)) ((List.Sublist.refl _)) ?_
      rintro i hI
      try dsimp only at hI ⊢
      have hv : (rounds R stepsL (sched W 64) 64).length = 8 := rounds_len hR 64
      have ha : (addI R (rounds R stepsL (sched W 64) 64) i).length = 8 := addI_len
      refine tk_seq ?_
      refine tk_region ?_
      refine tk_q rfl rfl rfl (y_lss rfl rfl) ?_
      refine tk_nil ?_
      refine tk_then ?_
      refine tk_seq ?_
      refine tk_condP rfl (fun ht164 => ?_) (fun ht164 => ?_)
      · skip
        refine tk_skip ?_
        refine tk_then ?_
        refine tk_seq ?_
        refine tk_block ?_
        refine tk_seq ?_
        refine tk_region ?_
        refine tk_q rfl rfl rfl (y_move rfl) ?_
        refine tk_q rfl rfl rfl (y_assign rfl) ?_
        refine tk_nil ?_
        refine tk_then ?_
        refine tk_drawH [cel b7 ((rounds R stepsL (sched W 64) 64).map W4) 170, cel b2 ((sched W 64).map W4) 193, cel sb ((addI R (rounds R stepsL (sched W 64) 64) i).map W4 ++ (W.map B ++ ([I ((n : Nat) : Int)]))) 172] [13] (by kernel_rfl) ?_
        refine tx_q 0 rfl (by kernel_rfl) rfl rfl rfl (fun _ _ _ h => h) (y_move rfl) ?_
        refine tx_q 1 rfl (by kernel_rfl) rfl rfl rfl (fun _ _ _ h => h) (y_move rfl) ?_
        refine tx_q 2 rfl (by kernel_rfl) rfl rfl rfl (fun _ _ _ h => h) (y_nilCheck rfl) ?_
        refine tx_q 3 rfl (by kernel_rfl) rfl rfl rfl (fun _ _ _ h => h) (y_fld0 (o := 0) rfl (by kernel_rfl)) ?_
        refine tx_q 4 rfl (by kernel_rfl) rfl rfl rfl (fun _ _ _ h => h) (y_ixA01 8 (i := i) rfl rfl (by kernel_rfl) (by omega)) ?_
        refine tx_l 5 rfl (by kernel_rfl) (by kernel_rfl) rfl rfl rfl (fun _ _ _ h => h) (fun _ h => h.sub (List.Sublist.refl _)) (y_load rfl rfl (hc (o := i) (.tail _ (.tail _ (.head _))) (gM1 (d := 0) lenP))) ?_
        refine tx_q 6 rfl (by kernel_rfl) rfl rfl rfl (fun _ _ _ h => h) (y_move rfl) ?_
        refine tx_q 7 rfl (by kernel_rfl) rfl rfl rfl (fun _ _ _ h => h) (y_ixA01 8 (i := i) rfl rfl (by kernel_rfl) (by omega)) ?_
        refine tx_l 8 rfl (by kernel_rfl) (by kernel_rfl) rfl rfl rfl (fun _ _ _ h => h) (fun _ h => h.sub (List.Sublist.refl _)) (y_load rfl rfl (hc (o := i) (.head _) (gM (d := 0) lenP))) ?_
        refine tx_q 9 rfl (by kernel_rfl) rfl rfl rfl (fun _ _ _ h => h) (y_addW (a := (addI R (rounds R stepsL (sched W 64) 64) i).getD i 0) (b := (rounds R stepsL (sched W 64) 64).getD i 0) rfl rfl) ?_
        refine tx_q 10 rfl (by kernel_rfl) rfl rfl rfl (fun _ _ _ h => h) (y_nilCheck rfl) ?_
        refine tx_q 11 rfl (by kernel_rfl) rfl rfl rfl (fun _ _ _ h => h) (y_fld0 (o := 0) rfl (by kernel_rfl)) ?_
        refine tx_q 12 rfl (by kernel_rfl) rfl rfl rfl (fun _ _ _ h => h) (y_ixA01 8 (i := i) rfl rfl (by kernel_rfl) (by omega)) ?_
        refine tx_x 13 rfl (by kernel_rfl) rfl rfl ?_; refine a_storeE (H1 := [_, _]) (o := i) (v := W4 (((addI R (rounds R stepsL (sched W 64) 64) i).getD i 0) + ((rounds R stepsL (sched W 64) 64).getD i 0))) (cs' := ((addI R (rounds R stepsL (sched W 64) 64) i).set i (((addI R (rounds R stepsL (sched W 64) 64) i).getD i 0) + ((rounds R stepsL (sched W 64) 64).getD i 0))).map W4 ++ (W.map B ++ ([I ((n : Nat) : Int)]))) rfl rfl (by kernel_rfl) rfl rfl (by first | (simp; done) | (simp; omega)) (sM1 lenP) ?_
        refine tx_done (by kernel_rfl) ?_
        refine tk_in_normal ?_
        refine tk_then ?_
        refine tk_region ?_
        refine tk_q rfl rfl rfl (y_addN (a := i) (b := 1) rfl rfl (by omega)) ?_
        refine tk_q rfl rfl rfl (y_move rfl) ?_
        refine tk_nil ?_
        refine tk_H [cel b7 ((rounds R stepsL (sched W 64) 64).map W4) 170, cel b2 ((sched W 64).map W4) 193, cel sb ((addI R (rounds R stepsL (sched W 64) 64) (i + 1)).map W4 ++ (W.map B ++ ([I ((n : Nat) : Int)]))) 172] (congrArg (fun z_ => [cel b7 ((rounds R stepsL (sched W 64) 64).map W4) 170, cel b2 ((sched W 64).map W4) 193, cel sb z_ 172]) (show ((addI R (rounds R stepsL (sched W 64) 64) i).set i (((addI R (rounds R stepsL (sched W 64) 64) i).getD i 0) + ((rounds R stepsL (sched W 64) 64).getD i 0))).map W4 ++ (W.map B ++ ([I ((n : Nat) : Int)])) = (addI R (rounds R stepsL (sched W 64) 64) (i + 1)).map W4 ++ (W.map B ++ ([I ((n : Nat) : Int)])) from by rw [addI_set (by omega)])) ?_
        exact tk_again (i + 1) (by first | exact trivial | omega | (dsimp only; omega)) (by first | omega | (dsimp only; omega)) (by repeat (first | exact trivial | refine ⟨rfl, ?_⟩)) (List.Sublist.refl _)
      · skip
        refine tk_H [cel b7 ((rounds R stepsL (sched W 64) 64).map W4) 170, cel b2 ((sched W 64).map W4) 193, cel sb ((blockF R W).map W4 ++ (W.map B ++ ([I ((n : Nat) : Int)]))) 172] (congrArg (fun z_ => [cel b7 ((rounds R stepsL (sched W 64) 64).map W4) 170, cel b2 ((sched W 64).map W4) 193, cel sb z_ 172]) (show (addI R (rounds R stepsL (sched W 64) 64) i).map W4 ++ (W.map B ++ ([I ((n : Nat) : Int)])) = (blockF R W).map W4 ++ (W.map B ++ ([I ((n : Nat) : Int)])) from by rw [show i = 8 by omega, blockF])) ?_
        refine tk_exit ?_
        refine tk_then_exit ?_
        refine tk_then_exit ?_
        refine tk_in_hit ?_
        exact tk_ret (()) (trivial) (.inr rfl) (r0 rfl) (.cons _ (.cons _ (List.Sublist.refl _)))
theorem take_spec {sb n : Nat} {R : List UInt32} {W l m : List UInt8} {v : Value} {w : World} (hS : SI l R W) (hv : Ro (Fs [cel sb (R.map W4 ++ (W.map B ++ [I ((n : Nat) : Int)])) 172]) w (rdB v m)) (hn : n = l.length) (hb : l.length + m.length < 1152921504606846976)
    (hg : Ro (Fs [cel sb (R.map W4 ++ (W.map B ++ [I ((n : Nat) : Int)])) 172]) w glob) (hh : Pre w [cel sb (R.map W4 ++ (W.map B ++ [I ((n : Nat) : Int)])) 172]) :
    Spec Tryd.prog 99 [.pointer (some ⟨sb, 0, none⟩), v] w [cel sb (R.map W4 ++ (W.map B ++ [I ((n : Nat) : Int)])) 172] (fun x : List UInt32 × List UInt8 => SI (l ++ m) x.1 x.2) (fun _ => .tuple #[])
      (fun x => [cel sb (x.1.map W4 ++ (x.2.map B ++ [I ((l.length + m.length : Nat) : Int)])) 172]) := by
  refine spec_of (n := 38) Tryd.func99 rfl rfl hh.1 hh.2 rfl ?_
  subst hn
  have hR80 := hS.1
  have hW640 := hS.2.1
  refine tk_seq ?_
  refine tk_region ?_
  refine tk_q rfl rfl rfl (y_move rfl) ?_
  refine tk_q rfl rfl rfl (y_lenRN (n' := m.length) rfl hv.1 rfl (by first | rfl | (rw [List.length_map]; omega) | simp)) ?_
  refine tk_q rfl rfl rfl (y_move rfl) ?_
  refine tk_nil ?_
  refine tk_then ?_
  refine tk_block ?_
  refine tk_loop (X := Nat × List UInt32 × List UInt8) (fun (j, Rj, Wj) => j ≤ m.length ∧ SI (l ++ m.take j) Rj Wj) (fun (j, Rj, Wj) => [(0, .pointer (some ⟨sb, 0, none⟩)), (6, v), (7, I ((m.length : Nat) : Int)), (8, I ((j : Nat) : Int))]) (fun (j, Rj, Wj) => [cel sb (Rj.map W4 ++ (Wj.map B ++ ([I ((l.length + j : Nat) : Int)]))) 172]) (fun (j, Rj, Wj) => m.length - j) ((0, R, W)) (by dsimp only; exact ⟨Nat.zero_le _, by rw [List.take_zero, List.append_nil]; exact hS⟩) (by repeat (first | exact trivial | refine ⟨rfl, ?_⟩)) ((List.Sublist.refl _)) ?_
  rintro ⟨j, Rj, Wj⟩ hI
  try dsimp only at hI ⊢
  have hR8 := hI.2.1
  have hW64 := hI.2.2.1
  have hwv := hv.1
  refine tk_seq ?_
  refine tk_region ?_
  refine tk_q rfl rfl rfl (y_lss rfl rfl) ?_
  refine tk_nil ?_
  refine tk_then ?_
  refine tk_seq ?_
  refine tk_condP rfl (fun ht9 => ?_) (fun ht9 => ?_)
  · skip
    refine tk_skip ?_
    refine tk_then ?_
    refine tk_seq ?_
    refine tk_block ?_
    refine tk_seq ?_
    refine tk_region ?_
    refine tk_q rfl rfl rfl (y_ixR (j := j) rfl rfl hv.1 lenP (by kernel_rfl)) ?_
    refine tk_q rfl rfl rfl (y_load rfl rfl (fun w hw => ((fun w hw => Ro.rd hv hw) w hw).cell (gM (d := 0) lenP))) ?_
    refine tk_q rfl rfl rfl (y_assign rfl) ?_
    refine tk_nil ?_
    refine tk_then ?_
    refine tk_seq ?_
    refine tk_drawH [cel sb (Rj.map W4 ++ (Wj.map B ++ ([I ((l.length + j : Nat) : Int)]))) 172] [10] (by kernel_rfl) ?_
    refine tx_q 0 rfl (by kernel_rfl) rfl rfl rfl (fun _ _ _ h => h) (y_move rfl) ?_
    refine tx_q 1 rfl (by kernel_rfl) rfl rfl rfl (fun _ _ _ h => h) (y_move rfl) ?_
    refine tx_q 2 rfl (by kernel_rfl) rfl rfl rfl (fun _ _ _ h => h) (y_nilCheck rfl) ?_
    refine tx_q 3 rfl (by kernel_rfl) rfl rfl rfl (fun _ _ _ h => h) (y_fldN (o := 0) 72 rfl (by kernel_rfl)) ?_
    refine tx_l 4 rfl (by kernel_rfl) (by kernel_rfl) rfl rfl rfl (fun _ _ _ h => h) (fun _ h => h.sub (List.Sublist.refl _)) (y_load rfl rfl (hc (o := 72) (.head _) (gA (k := 8) (i := 64) lenP (by omega) (gA (k := 64) (i := 0) lenP (by omega) (rfl))))) ?_
    refine tx_q 5 rfl (by kernel_rfl) rfl rfl rfl (fun _ _ _ h => h) (y_remN (a := l.length + j) (b := 64) rfl rfl (by omega)) ?_
    refine tx_q 6 rfl (by kernel_rfl) rfl rfl rfl (fun _ _ _ h => h) (y_move rfl) ?_
    refine tx_q 7 rfl (by kernel_rfl) rfl rfl rfl (fun _ _ _ h => h) (y_nilCheck rfl) ?_
    refine tx_q 8 rfl (by kernel_rfl) rfl rfl rfl (fun _ _ _ h => h) (y_fldN (o := 0) 8 rfl (by kernel_rfl)) ?_
    refine tx_q 9 rfl (by kernel_rfl) rfl rfl rfl (fun _ _ _ h => h) (y_ixAN1 64 (o := 8) (i := (l.length + j) % 64) rfl rfl (by kernel_rfl) (by omega)) ?_
    refine tx_x 10 rfl (by kernel_rfl) rfl rfl ?_; refine a_storeE (H1 := []) (o := 8 + (l.length + j) % 64) (v := B (m.getD j 0)) (cs' := Rj.map W4 ++ ((Wj.set ((l.length + j) % 64) (m.getD j 0)).map B ++ ([I ((l.length + j : Nat) : Int)]))) rfl rfl (by kernel_rfl) rfl rfl (by first | (simp; done) | (simp; omega)) (sA (k := 8) (i := (l.length + j) % 64) lenP (by omega) (sM1 lenP)) ?_
    refine tx_done (by kernel_rfl) ?_
    refine tk_then ?_
    refine tk_seq ?_
    refine tk_region ?_
    refine tk_q rfl rfl rfl (y_move rfl) ?_
    refine tk_q rfl rfl rfl (y_nilCheck rfl) ?_
    refine tk_q rfl rfl rfl (y_fldN (o := 0) 72 rfl (by kernel_rfl)) ?_
    refine tk_q rfl rfl rfl (y_load rfl rfl (hc (o := 72) (.head _) (gA (k := 8) (i := 64) lenP (by omega) (gA (k := 64) (i := 0) lenP (by omega) (rfl))))) ?_
    refine tk_q rfl rfl rfl (y_addN (a := l.length + j) (b := 1) rfl rfl (by omega)) ?_
    refine tk_q rfl rfl rfl (y_nilCheck rfl) ?_
    refine tk_q rfl rfl rfl (y_fldN (o := 0) 72 rfl (by kernel_rfl)) ?_
    refine tk_act rfl ?_; refine a_storeE (H1 := []) (o := 72) (v := I (((l.length + j) + 1 : Nat) : Int)) (cs' := Rj.map W4 ++ ((Wj.set ((l.length + j) % 64) (m.getD j 0)).map B ++ ([I (((l.length + j) + 1 : Nat) : Int)]))) rfl rfl (by kernel_rfl) rfl rfl (by first | (simp; done) | (simp; omega)) (sA (k := 8) (i := 64) lenP (by omega) (sA (k := 64) (i := 0) lenP (by omega) (rfl))) ?_
    refine tk_nil ?_
    refine tk_then ?_
    refine tk_seq ?_
    refine tk_region ?_
    refine tk_q rfl rfl rfl (y_move rfl) ?_
    refine tk_q rfl rfl rfl (y_nilCheck rfl) ?_
    refine tk_q rfl rfl rfl (y_fldN (o := 0) 72 rfl (by kernel_rfl)) ?_
    refine tk_q rfl rfl rfl (y_load rfl rfl (hc (o := 72) (.head _) (gA (k := 8) (i := 64) lenP (by omega) (gA (k := 64) (i := 0) lenP (by omega) (rfl))))) ?_
    refine tk_q rfl rfl rfl (y_remN (a := (l.length + j) + 1) (b := 64) rfl rfl (by omega)) ?_
    refine tk_q rfl rfl rfl (y_eql rfl rfl) ?_
    refine tk_nil ?_
    refine tk_then ?_
    refine tk_condP rfl (fun ht34 => ?_) (fun ht34 => ?_)
    · skip
      refine tk_region ?_
      refine tk_q rfl rfl rfl (y_move rfl) ?_
      refine tk_act rfl ?_; refine a_callv [] _ rfl (by kernel_rfl) rfl (fun w' hw' => turn_spec (R := Rj) (W := Wj.set ((l.length + j) % 64) (m.getD j 0)) (n := (l.length + j) + 1) lenP lenP (hg.call hw') (St.pre hw')) rfl fun _ _ => ?_
      refine tk_nil ?_
      refine tk_in_normal ?_
      refine tk_then ?_
      refine tk_region ?_
      refine tk_q rfl rfl rfl (y_addN (a := j) (b := 1) rfl rfl (by omega)) ?_
      refine tk_q rfl rfl rfl (y_move rfl) ?_
      refine tk_nil ?_
      exact tk_again ((j + 1, blockF Rj (Wj.set ((l.length + j) % 64) (m.getD j 0)), Wj.set ((l.length + j) % 64) (m.getD j 0))) (⟨by omega, SI_twrap hI.2 (by omega) (by omega)⟩) (by first | omega | (dsimp only; omega)) (by repeat (first | exact trivial | refine ⟨rfl, ?_⟩)) (List.Sublist.refl _)
    · skip
      refine tk_skip ?_
      refine tk_in_normal ?_
      refine tk_then ?_
      refine tk_region ?_
      refine tk_q rfl rfl rfl (y_addN (a := j) (b := 1) rfl rfl (by omega)) ?_
      refine tk_q rfl rfl rfl (y_move rfl) ?_
      refine tk_nil ?_
      exact tk_again ((j + 1, Rj, Wj.set ((l.length + j) % 64) (m.getD j 0))) (⟨by omega, SI_tpush hI.2 (by omega) (by omega)⟩) (by first | omega | (dsimp only; omega)) (by repeat (first | exact trivial | refine ⟨rfl, ?_⟩)) (List.Sublist.refl _)
  · skip
    refine tk_exit ?_
    refine tk_then_exit ?_
    refine tk_then_exit ?_
    refine tk_in_hit ?_
    refine tk_H [cel sb (Rj.map W4 ++ (Wj.map B ++ ([I ((l.length + m.length : Nat) : Int)]))) 172] (congrArg (fun z_ => [cel sb z_ 172]) (show Rj.map W4 ++ (Wj.map B ++ ([I ((l.length + j : Nat) : Int)])) = Rj.map W4 ++ (Wj.map B ++ ([I ((l.length + m.length : Nat) : Int)])) from by rw [show j = m.length by omega])) ?_
    exact tk_ret ((Rj, Wj)) (by have e : j = m.length := (by omega); have h := hI.2; rw [e, List.take_length] at h; exact h) (.inr rfl) (r0 rfl) (List.Sublist.refl _)
end Go.Proofs.YtfofkjajlfphjaaDoor

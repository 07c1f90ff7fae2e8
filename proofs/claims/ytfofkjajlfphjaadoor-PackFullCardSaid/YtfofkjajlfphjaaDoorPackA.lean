/- pack: walks over small functions. -/
import Derived.Test.YtfofkjajlfphjaaDoorPackPure
import Derived.Test.YtfofkjajlfphjaaDoorKeyH
import Derived.Test.YtfofkjajlfphjaaDoorEngThree
set_option linter.unusedSimpArgs false
set_option linter.unusedVariables false
namespace Go.Proofs.YtfofkjajlfphjaaDoor
open Go Go.RowKit
set_option maxRecDepth 100000
theorem hex_hi (x : UInt8) : (UInt8.ofNat (x.toNat / 2 ^ 4)).toNat < 16 := by have := x.toNat_lt; simp; omega
theorem hex_lo (x : UInt8) : (x &&& 15).toNat < 16 := by rw [UInt8.toNat_and]; have := @Nat.and_le_right x.toNat (15 : UInt8).toNat; have : (15 : UInt8).toNat = 15 := rfl; omega
theorem hex_hi2 (x : UInt8) : (UInt8.ofNat (x.toNat / (16 : UInt8).toNat)).toNat < 16 := by have := x.toNat_lt; simp; omega
theorem hex_lo2 (x : UInt8) : (UInt8.ofNat (x.toNat % (16 : UInt8).toNat)).toNat < 16 := by have := x.toNat_lt; simp; omega
theorem hex_step {l : List UInt8} {i : Nat} (h : i < l.length) : hexL (l.take i) ++ [([48, 49, 50, 51, 52, 53, 54, 55, 56, 57, 97, 98, 99, 100, 101, 102] : List UInt8).getD (UInt8.ofNat ((l.getD i 0).toNat / 2 ^ 4)).toNat 0, ([48, 49, 50, 51, 52, 53, 54, 55, 56, 57, 97, 98, 99, 100, 101, 102] : List UInt8).getD ((l.getD i 0) &&& 15).toNat 0] = hexL (l.take (i + 1)) := by
  rw [← hexL_take h]
  generalize l.getD i 0 = x
  have e1 : (UInt8.ofNat (x.toNat / 2 ^ 4)).toNat = x.toNat / 16 := by have := x.toNat_lt; simp; omega
  have e2 : (x &&& 15).toNat = x.toNat % 16 := by rw [UInt8.toNat_and]; exact Nat.and_two_pow_sub_one_eq_mod x.toNat 4
  rw [e1, e2]; rfl
theorem hex_step2 {l : List UInt8} {i : Nat} (h : i < l.length) : hexL (l.take i) ++ [([48, 49, 50, 51, 52, 53, 54, 55, 56, 57, 97, 98, 99, 100, 101, 102] : List UInt8).getD (UInt8.ofNat ((l.getD i 0).toNat / (16 : UInt8).toNat)).toNat 0, ([48, 49, 50, 51, 52, 53, 54, 55, 56, 57, 97, 98, 99, 100, 101, 102] : List UInt8).getD (UInt8.ofNat ((l.getD i 0).toNat % (16 : UInt8).toNat)).toNat 0] = hexL (l.take (i + 1)) := by
  rw [← hexL_take h]
  generalize l.getD i 0 = x
  have e1 : (UInt8.ofNat (x.toNat / (16 : UInt8).toNat)).toNat = x.toNat / 16 := by have := x.toNat_lt; simp; omega
  have e2 : (UInt8.ofNat (x.toNat % (16 : UInt8).toNat)).toNat = x.toNat % 16 := by have := x.toNat_lt; simp; omega
  rw [e1, e2]; rfl
attribute [local irreducible] sumL keyedL hexL
theorem isKind_spec {k : Int} {w : World} : Spec Tryd.prog 59 [I k] w [] (fun _ : Unit => True) (fun _ => .bool (decide (k = 1 ∨ k = 2))) (fun _ => []) := by
  refine spec_of (n := 9) Tryd.func59 rfl rfl trivial trivial rfl ?_
  refine tk_seq ?_
  refine tk_region ?_
  refine tk_q rfl rfl rfl (y_assign rfl) ?_
  refine tk_nil ?_
  refine tk_then ?_
  refine tk_seq ?_
  refine tk_region ?_
  refine tk_q rfl rfl rfl (y_move rfl) ?_
  refine tk_qs rfl rfl rfl (y_eql rfl rfl) (fun hs1_1 => ?_) (fun hs1_1 => ?_)
  · skip
    refine tk_q rfl rfl rfl (y_move rfl) ?_
    refine tk_gno rfl rfl rfl ?_
    refine tk_gno rfl rfl rfl ?_
    refine tk_q rfl rfl rfl (y_pick1 rfl rfl) ?_
    refine tk_q rfl rfl rfl (y_assign rfl) ?_
    refine tk_nil ?_
    refine tk_then ?_
    refine tk_retc ?_
    refine tk_re 2 (.bool true) (.bool (decide (k = 1 ∨ k = 2))) rfl (by simp [hs1_1]) ?_
    exact tk_ret (()) (trivial) (.inl rfl) (r1 rfl rfl) (List.Sublist.refl _)
  · skip
    refine tk_q rfl rfl rfl (y_move rfl) ?_
    refine tk_gq rfl rfl rfl (y_move rfl) ?_
    refine tk_gq rfl rfl rfl (y_eql rfl rfl) ?_
    refine tk_q rfl rfl rfl (y_pick0 rfl rfl) ?_
    refine tk_q rfl rfl rfl (y_assign rfl) ?_
    refine tk_nil ?_
    refine tk_then ?_
    refine tk_retc ?_
    refine tk_re 2 (.bool (decide (k = (2 : Int)))) (.bool (decide (k = 1 ∨ k = 2))) rfl (by simp [hs1_1]) ?_
    exact tk_ret (()) (trivial) (.inl rfl) (r1 rfl rfl) (List.Sublist.refl _)
theorem text_spec {l : List UInt8} {w : World} (hl : l.length = 32) : Spec Tryd.prog 76 [Ag l] w [] (fun _ : Unit => True) (fun _ => Str (hexL l)) (fun _ => []) := by
  refine spec_of (n := 22) Tryd.func76 rfl rfl trivial trivial rfl ?_
  refine tk_seq ?_
  refine tk_region ?_
  refine tk_act rfl ?_; refine a_boxL (cs := l.map B) rfl rfl fun b1 => ?_
  refine tk_q rfl rfl rfl (y_assign rfl) ?_
  refine tk_nil ?_
  refine tk_then ?_
  refine tk_seq ?_
  refine tk_region ?_
  refine tk_q rfl rfl rfl (y_assign rfl) ?_
  refine tk_nil ?_
  refine tk_then ?_
  refine tk_seq ?_
  refine tk_seq ?_
  refine tk_region ?_
  refine tk_q rfl rfl rfl (y_loadA 32 rfl (by kernel_rfl) lenP (hcw (.head _))) ?_
  refine tk_q rfl rfl rfl (y_move rfl) ?_
  refine tk_nil ?_
  refine tk_then ?_
  refine tk_block ?_
  refine tk_ownM0 (f := B) 5 ?_
  refine tk_H [own (.slice none 0 0) ((hexL (l.take 0)).length) ((hexL (l.take 0)).map B) 5 1, cel b1 (l.map B) 22] (congrArg (fun z_ => [z_, cel b1 (l.map B) 22]) (show own (.slice none 0 0) (([] : List UInt8).length) (([] : List UInt8).map B) 5 1 = own (.slice none 0 0) ((hexL (l.take 0)).length) ((hexL (l.take 0)).map B) 5 1 from ownM_cast (hexL_0.symm))) ?_
  refine tk_loop (X := Nat × Value) (fun (i, v) => i ≤ 32) (fun (i, v) => [(2, Str []), (3, v), (6, .agg (l.map B).toArray), (7, I ((i : Nat) : Int))]) (fun (i, v) => [own v ((hexL (l.take i)).length) ((hexL (l.take i)).map B) 5 1, cel b1 (l.map B) 22]) (fun (i, v) => 32 - i) ((0, .slice none 0 0)) (Nat.zero_le _) (by repeat (first | exact trivial | refine ⟨rfl, ?_⟩)) ((List.Sublist.refl _)) ?_
  rintro ⟨i, v⟩ hI
  try dsimp only at hI ⊢
  have hlx : (hexL (l.take i)).length ≤ 2 * l.length := by rw [hexL_len, List.length_take]; omega
  refine tk_own1 (.head _) fun hfv => ?_
  refine tk_seq ?_
  refine tk_region ?_
  refine tk_q rfl rfl rfl (y_lss rfl rfl) ?_
  refine tk_nil ?_
  refine tk_then ?_
  refine tk_seq ?_
  refine tk_condP rfl (fun ht8 => ?_) (fun ht8 => ?_)
  · skip
    refine tk_skip ?_
    refine tk_then ?_
    refine tk_seq ?_
    refine tk_block ?_
    refine tk_seq ?_
    refine tk_region ?_
    refine tk_q rfl rfl rfl (y_ixVM (d0 := 0) (i := i) rfl rfl rfl rfl (fun _ => by kernel_rfl) (by omega) lenP) ?_
    refine tk_q rfl rfl rfl (y_assign rfl) ?_
    refine tk_nil ?_
    refine tk_then ?_
    refine tk_drawH [cel b1 (l.map B) 22] [] (by kernel_rfl) ?_
    refine tx_q 0 rfl (by kernel_rfl) rfl rfl rfl (fun _ _ _ h => h) (y_move rfl) ?_
    refine tx_q 1 rfl (by kernel_rfl) rfl rfl rfl (fun _ _ _ h => h) (y_move rfl) ?_
    refine tx_q 2 rfl (by kernel_rfl) rfl rfl rfl (fun _ _ _ h => h) (y_shr8 (a := l.getD i 0) (m := 4) rfl rfl (by decide)) ?_
    refine tx_q 3 rfl (by kernel_rfl) rfl rfl rfl (fun _ _ _ h => h) (y_ixT (l := [48, 49, 50, 51, 52, 53, 54, 55, 56, 57, 97, 98, 99, 100, 101, 102]) (i := (UInt8.ofNat ((l.getD i 0).toNat / 2 ^ 4)).toNat) rfl rfl rfl ⟨rfl, (hex_hi _)⟩) ?_
    refine tx_q 4 rfl (by kernel_rfl) rfl rfl rfl (fun _ _ _ h => h) (y_move rfl) ?_
    refine tx_q 5 rfl (by kernel_rfl) rfl rfl rfl (fun _ _ _ h => h) (y_and8 (a := l.getD i 0) (b := 15) rfl rfl) ?_
    refine tx_q 6 rfl (by kernel_rfl) rfl rfl rfl (fun _ _ _ h => h) (y_ixT (l := [48, 49, 50, 51, 52, 53, 54, 55, 56, 57, 97, 98, 99, 100, 101, 102]) (i := ((l.getD i 0) &&& 15).toNat) rfl rfl rfl ⟨rfl, (hex_lo _)⟩) ?_
    refine tx_a 7 rfl (by kernel_rfl) rfl ?_; refine a_slitN (vs := [B ([48, 49, 50, 51, 52, 53, 54, 55, 56, 57, 97, 98, 99, 100, 101, 102].getD ((UInt8.ofNat ((l.getD i 0).toNat / 2 ^ 4)).toNat) 0), B ([48, 49, 50, 51, 52, 53, 54, 55, 56, 57, 97, 98, 99, 100, 101, 102].getD (((l.getD i 0) &&& 15).toNat) 0)]) rfl (List.forall_mem_cons.2 ⟨rfl, (List.forall_mem_cons.2 ⟨rfl, (fun _ h => nomatch h)⟩)⟩) (EL26) rfl rfl (by decide) fun b17 => ?_
    refine tk_S (fun _ h => h.sub (.cons _ (.cons _ (List.Sublist.refl _)))) ?_
    refine tx_more [cel b17 ([B ([48, 49, 50, 51, 52, 53, 54, 55, 56, 57, 97, 98, 99, 100, 101, 102].getD ((UInt8.ofNat ((l.getD i 0).toNat / 2 ^ 4)).toNat) 0), B ([48, 49, 50, 51, 52, 53, 54, 55, 56, 57, 97, 98, 99, 100, 101, 102].getD (((l.getD i 0) &&& 15).toNat) 0)]) 5, cel b1 (l.map B) 22] (fun _ h => h.sub (.cons _ (List.Sublist.refl _))) (fun _ h => h.sub (.cons_cons _ (.cons _ (List.Sublist.refl _)))) ?_
    refine tx_a 8 rfl (by kernel_rfl) rfl ?_; refine a_appM (H1 := [_]) (f := B) (l := hexL (l.take i)) (m := [[48, 49, 50, 51, 52, 53, 54, 55, 56, 57, 97, 98, 99, 100, 101, 102].getD ((UInt8.ofNat ((l.getD i 0).toNat / 2 ^ 4)).toNat) 0, [48, 49, 50, 51, 52, 53, 54, 55, 56, 57, 97, 98, 99, 100, 101, 102].getD (((l.getD i 0) &&& 15).toNat) 0]) rfl rfl EL26 rfl rfl (fun w hw => cel_rdE (o := 0) (m := 2) (cp := 2) (vs := ([[48, 49, 50, 51, 52, 53, 54, 55, 56, 57, 97, 98, 99, 100, 101, 102].getD ((UInt8.ofNat ((l.getD i 0).toNat / 2 ^ 4)).toNat) 0, [48, 49, 50, 51, 52, 53, 54, 55, 56, 57, 97, 98, 99, 100, 101, 102].getD (((l.getD i 0) &&& 15).toNat) 0]).map B) (hw.mem (.head _)) (rfl) (by first | rfl | (simp; done) | (simp; omega)) (by first | omega | (simp; done) | (simp; omega))) (fun _ => rfl) ⟨lenP, lenP⟩ fun v18 => ?_
    refine tk_own1 (.tail _ (.head _)) fun hfv18 => ?_
    refine tk_S (fun _ h => h.sub (.cons_cons _ (.cons _ (List.Sublist.refl _)))) ?_
    refine tx_q 9 rfl (by kernel_rfl) rfl rfl rfl (fun _ _ _ h => h) (y_assign rfl) ?_
    refine tx_done (by kernel_rfl) ?_
    refine tk_in_normal ?_
    refine tk_then ?_
    refine tk_region ?_
    refine tk_q rfl rfl rfl (y_addN (a := i) (b := 1) rfl rfl (by omega)) ?_
    refine tk_q rfl rfl rfl (y_move rfl) ?_
    refine tk_nil ?_
    refine tk_H [cel b17 ([B ([48, 49, 50, 51, 52, 53, 54, 55, 56, 57, 97, 98, 99, 100, 101, 102].getD ((UInt8.ofNat ((l.getD i 0).toNat / 2 ^ 4)).toNat) 0), B ([48, 49, 50, 51, 52, 53, 54, 55, 56, 57, 97, 98, 99, 100, 101, 102].getD (((l.getD i 0) &&& 15).toNat) 0)]) 5, own v18 ((hexL (l.take (i + 1))).length) ((hexL (l.take (i + 1))).map B) 5 1, cel b1 (l.map B) 22] (congrArg (fun z_ => [cel b17 ([B ([48, 49, 50, 51, 52, 53, 54, 55, 56, 57, 97, 98, 99, 100, 101, 102].getD ((UInt8.ofNat ((l.getD i 0).toNat / 2 ^ 4)).toNat) 0), B ([48, 49, 50, 51, 52, 53, 54, 55, 56, 57, 97, 98, 99, 100, 101, 102].getD (((l.getD i 0) &&& 15).toNat) 0)]) 5, z_, cel b1 (l.map B) 22]) (show own v18 (((hexL (l.take i)) ++ ([[48, 49, 50, 51, 52, 53, 54, 55, 56, 57, 97, 98, 99, 100, 101, 102].getD ((UInt8.ofNat ((l.getD i 0).toNat / 2 ^ 4)).toNat) 0, [48, 49, 50, 51, 52, 53, 54, 55, 56, 57, 97, 98, 99, 100, 101, 102].getD (((l.getD i 0) &&& 15).toNat) 0])).length) (((hexL (l.take i)) ++ ([[48, 49, 50, 51, 52, 53, 54, 55, 56, 57, 97, 98, 99, 100, 101, 102].getD ((UInt8.ofNat ((l.getD i 0).toNat / 2 ^ 4)).toNat) 0, [48, 49, 50, 51, 52, 53, 54, 55, 56, 57, 97, 98, 99, 100, 101, 102].getD (((l.getD i 0) &&& 15).toNat) 0])).map B) 5 1 = own v18 ((hexL (l.take (i + 1))).length) ((hexL (l.take (i + 1))).map B) 5 1 from ownM_cast (hex_step (by omega)))) ?_
    exact tk_again ((i + 1, v18)) (by dsimp only; omega) (by dsimp only; omega) (by repeat (first | exact trivial | refine ⟨rfl, ?_⟩)) (.cons _ (List.Sublist.refl _))
  · skip
    refine tk_exit ?_
    refine tk_then_exit ?_
    refine tk_then_exit ?_
    refine tk_in_hit ?_
    refine tk_then ?_
    refine tk_seq ?_
    refine tk_region ?_
    refine tk_q rfl rfl rfl (y_move rfl) ?_
    refine tk_q rfl rfl rfl (y_str (l := hexL (l.take i)) rfl rfl rfl rfl (fun w hw => own_rdS (hw.mem (.head _)))) ?_
    refine tk_re 21 (Str (hexL (l.take i))) (Str (hexL l)) rfl (by rw [show i = 32 by omega, ← hl, List.take_length]) ?_
    refine tk_q rfl rfl rfl (y_assign rfl) ?_
    refine tk_nil ?_
    refine tk_then ?_
    refine tk_retc ?_
    exact tk_ret (()) (trivial) (.inl rfl) (r1 rfl rfl) (List.nil_sublist _)
theorem rtext_spec {l : List UInt8} {w : World} (hl : l.length < 1099511627776) : Spec Tryd.prog 75 [Str l] w [] (fun _ : Unit => True) (fun _ => Str (hexL l)) (fun _ => []) := by
  refine spec_of (n := 29) Tryd.func75 rfl rfl trivial trivial rfl ?_
  refine tk_seq ?_
  refine tk_region ?_
  refine tk_q rfl rfl rfl (y_assign rfl) ?_
  refine tk_nil ?_
  refine tk_then ?_
  refine tk_seq ?_
  refine tk_region ?_
  refine tk_q rfl rfl rfl (y_assign rfl) ?_
  refine tk_nil ?_
  refine tk_then ?_
  refine tk_seq ?_
  refine tk_region ?_
  refine tk_q rfl rfl rfl (y_assign rfl) ?_
  refine tk_nil ?_
  refine tk_then ?_
  refine tk_seq ?_
  refine tk_seq ?_
  refine tk_region ?_
  refine tk_q rfl rfl rfl (y_assign rfl) ?_
  refine tk_nil ?_
  refine tk_then ?_
  refine tk_block ?_
  refine tk_ownM0 (f := B) 5 ?_
  refine tk_H [own (.slice none 0 0) ((hexL (l.take 0)).length) ((hexL (l.take 0)).map B) 5 1] (congrArg (fun z_ => [z_]) (show own (.slice none 0 0) (([] : List UInt8).length) (([] : List UInt8).map B) 5 1 = own (.slice none 0 0) ((hexL (l.take 0)).length) ((hexL (l.take 0)).map B) 5 1 from ownM_cast (hexL_0.symm))) ?_
  refine tk_loop (X := Nat × Value) (fun (i, v) => i ≤ l.length) (fun (i, v) => [(0, Str l), (2, Str []), (3, Str [48, 49, 50, 51, 52, 53, 54, 55, 56, 57, 97, 98, 99, 100, 101, 102]), (4, v), (5, I ((i : Nat) : Int))]) (fun (i, v) => [own v ((hexL (l.take i)).length) ((hexL (l.take i)).map B) 5 1]) (fun (i, v) => l.length - i) ((0, .slice none 0 0)) (Nat.zero_le _) (by repeat (first | exact trivial | refine ⟨rfl, ?_⟩)) ((List.Sublist.refl _)) ?_
  rintro ⟨i, v⟩ hI
  try dsimp only at hI ⊢
  have hlx : (hexL (l.take i)).length ≤ 2 * l.length := by rw [hexL_len, List.length_take]; omega
  refine tk_own1 (.head _) fun hfv => ?_
  refine tk_seq ?_
  refine tk_seq ?_
  refine tk_region ?_
  refine tk_q rfl rfl rfl (y_move rfl) ?_
  refine tk_q rfl rfl rfl (y_move rfl) ?_
  refine tk_q rfl rfl rfl (y_lenStr (l := l) rfl rfl) ?_
  refine tk_q rfl rfl rfl (y_lss rfl rfl) ?_
  refine tk_nil ?_
  refine tk_then ?_
  refine tk_condP rfl (fun ht9 => ?_) (fun ht9 => ?_)
  · skip
    refine tk_skip ?_
    refine tk_then ?_
    refine tk_seq ?_
    refine tk_block ?_
    refine tk_drawH [] [] (by kernel_rfl) ?_
    refine tx_q 0 rfl (by kernel_rfl) rfl rfl rfl (fun _ _ _ h => h) (y_move rfl) ?_
    refine tx_q 1 rfl (by kernel_rfl) rfl rfl rfl (fun _ _ _ h => h) (y_move rfl) ?_
    refine tx_q 2 rfl (by kernel_rfl) rfl rfl rfl (fun _ _ _ h => h) (y_move rfl) ?_
    refine tx_q 3 rfl (by kernel_rfl) rfl rfl rfl (fun _ _ _ h => h) (y_move rfl) ?_
    refine tx_q 4 rfl (by kernel_rfl) rfl rfl rfl (fun _ _ _ h => h) (y_ixT (l := l) (i := i) rfl rfl rfl ⟨rfl, lenP⟩) ?_
    refine tx_q 5 rfl (by kernel_rfl) rfl rfl rfl (fun _ _ _ h => h) (y_quo8 (a := l.getD i 0) (b := 16) rfl rfl (by decide)) ?_
    refine tx_q 6 rfl (by kernel_rfl) rfl rfl rfl (fun _ _ _ h => h) (y_ixT (l := [48, 49, 50, 51, 52, 53, 54, 55, 56, 57, 97, 98, 99, 100, 101, 102]) (i := (UInt8.ofNat ((l.getD i 0).toNat / (16 : UInt8).toNat)).toNat) rfl rfl rfl ⟨rfl, (hex_hi2 _)⟩) ?_
    refine tx_q 7 rfl (by kernel_rfl) rfl rfl rfl (fun _ _ _ h => h) (y_move rfl) ?_
    refine tx_q 8 rfl (by kernel_rfl) rfl rfl rfl (fun _ _ _ h => h) (y_move rfl) ?_
    refine tx_q 9 rfl (by kernel_rfl) rfl rfl rfl (fun _ _ _ h => h) (y_move rfl) ?_
    refine tx_q 10 rfl (by kernel_rfl) rfl rfl rfl (fun _ _ _ h => h) (y_ixT (l := l) (i := i) rfl rfl rfl ⟨rfl, lenP⟩) ?_
    refine tx_q 11 rfl (by kernel_rfl) rfl rfl rfl (fun _ _ _ h => h) (y_rem8 (a := l.getD i 0) (b := 16) rfl rfl (by decide)) ?_
    refine tx_q 12 rfl (by kernel_rfl) rfl rfl rfl (fun _ _ _ h => h) (y_ixT (l := [48, 49, 50, 51, 52, 53, 54, 55, 56, 57, 97, 98, 99, 100, 101, 102]) (i := (UInt8.ofNat ((l.getD i 0).toNat % (16 : UInt8).toNat)).toNat) rfl rfl rfl ⟨rfl, (hex_lo2 _)⟩) ?_
    refine tx_a 13 rfl (by kernel_rfl) rfl ?_; refine a_slitN (vs := [B ([48, 49, 50, 51, 52, 53, 54, 55, 56, 57, 97, 98, 99, 100, 101, 102].getD ((UInt8.ofNat ((l.getD i 0).toNat / (16 : UInt8).toNat)).toNat) 0), B ([48, 49, 50, 51, 52, 53, 54, 55, 56, 57, 97, 98, 99, 100, 101, 102].getD ((UInt8.ofNat ((l.getD i 0).toNat % (16 : UInt8).toNat)).toNat) 0)]) rfl (List.forall_mem_cons.2 ⟨rfl, (List.forall_mem_cons.2 ⟨rfl, (fun _ h => nomatch h)⟩)⟩) (EL26) rfl rfl (by decide) fun b25 => ?_
    refine tk_S (fun _ h => h.sub (List.nil_sublist _)) ?_
    refine tx_more [cel b25 ([B ([48, 49, 50, 51, 52, 53, 54, 55, 56, 57, 97, 98, 99, 100, 101, 102].getD ((UInt8.ofNat ((l.getD i 0).toNat / (16 : UInt8).toNat)).toNat) 0), B ([48, 49, 50, 51, 52, 53, 54, 55, 56, 57, 97, 98, 99, 100, 101, 102].getD ((UInt8.ofNat ((l.getD i 0).toNat % (16 : UInt8).toNat)).toNat) 0)]) 5] (fun _ h => h.sub (List.nil_sublist _)) (fun _ h => h.sub (.cons_cons _ (List.nil_sublist _))) ?_
    refine tx_a 14 rfl (by kernel_rfl) rfl ?_; refine a_appM (H1 := [_]) (f := B) (l := hexL (l.take i)) (m := [[48, 49, 50, 51, 52, 53, 54, 55, 56, 57, 97, 98, 99, 100, 101, 102].getD ((UInt8.ofNat ((l.getD i 0).toNat / (16 : UInt8).toNat)).toNat) 0, [48, 49, 50, 51, 52, 53, 54, 55, 56, 57, 97, 98, 99, 100, 101, 102].getD ((UInt8.ofNat ((l.getD i 0).toNat % (16 : UInt8).toNat)).toNat) 0]) rfl rfl EL26 rfl rfl (fun w hw => cel_rdE (o := 0) (m := 2) (cp := 2) (vs := ([[48, 49, 50, 51, 52, 53, 54, 55, 56, 57, 97, 98, 99, 100, 101, 102].getD ((UInt8.ofNat ((l.getD i 0).toNat / (16 : UInt8).toNat)).toNat) 0, [48, 49, 50, 51, 52, 53, 54, 55, 56, 57, 97, 98, 99, 100, 101, 102].getD ((UInt8.ofNat ((l.getD i 0).toNat % (16 : UInt8).toNat)).toNat) 0]).map B) (hw.mem (.head _)) (rfl) (by first | rfl | (simp; done) | (simp; omega)) (by first | omega | (simp; done) | (simp; omega))) (fun _ => rfl) ⟨lenP, lenP⟩ fun v26 => ?_
    refine tk_own1 (.tail _ (.head _)) fun hfv26 => ?_
    refine tk_S (fun _ h => h.sub (.cons_cons _ (List.nil_sublist _))) ?_
    refine tx_q 15 rfl (by kernel_rfl) rfl rfl rfl (fun _ _ _ h => h) (y_assign rfl) ?_
    refine tx_done (by kernel_rfl) ?_
    refine tk_in_normal ?_
    refine tk_then ?_
    refine tk_region ?_
    refine tk_q rfl rfl rfl (y_move rfl) ?_
    refine tk_q rfl rfl rfl (y_addN (a := i) (b := 1) rfl rfl (by omega)) ?_
    refine tk_q rfl rfl rfl (y_assign rfl) ?_
    refine tk_nil ?_
    refine tk_H [cel b25 ([B ([48, 49, 50, 51, 52, 53, 54, 55, 56, 57, 97, 98, 99, 100, 101, 102].getD ((UInt8.ofNat ((l.getD i 0).toNat / (16 : UInt8).toNat)).toNat) 0), B ([48, 49, 50, 51, 52, 53, 54, 55, 56, 57, 97, 98, 99, 100, 101, 102].getD ((UInt8.ofNat ((l.getD i 0).toNat % (16 : UInt8).toNat)).toNat) 0)]) 5, own v26 ((hexL (l.take (i + 1))).length) ((hexL (l.take (i + 1))).map B) 5 1] (congrArg (fun z_ => [cel b25 ([B ([48, 49, 50, 51, 52, 53, 54, 55, 56, 57, 97, 98, 99, 100, 101, 102].getD ((UInt8.ofNat ((l.getD i 0).toNat / (16 : UInt8).toNat)).toNat) 0), B ([48, 49, 50, 51, 52, 53, 54, 55, 56, 57, 97, 98, 99, 100, 101, 102].getD ((UInt8.ofNat ((l.getD i 0).toNat % (16 : UInt8).toNat)).toNat) 0)]) 5, z_]) (show own v26 (((hexL (l.take i)) ++ ([[48, 49, 50, 51, 52, 53, 54, 55, 56, 57, 97, 98, 99, 100, 101, 102].getD ((UInt8.ofNat ((l.getD i 0).toNat / (16 : UInt8).toNat)).toNat) 0, [48, 49, 50, 51, 52, 53, 54, 55, 56, 57, 97, 98, 99, 100, 101, 102].getD ((UInt8.ofNat ((l.getD i 0).toNat % (16 : UInt8).toNat)).toNat) 0])).length) (((hexL (l.take i)) ++ ([[48, 49, 50, 51, 52, 53, 54, 55, 56, 57, 97, 98, 99, 100, 101, 102].getD ((UInt8.ofNat ((l.getD i 0).toNat / (16 : UInt8).toNat)).toNat) 0, [48, 49, 50, 51, 52, 53, 54, 55, 56, 57, 97, 98, 99, 100, 101, 102].getD ((UInt8.ofNat ((l.getD i 0).toNat % (16 : UInt8).toNat)).toNat) 0])).map B) 5 1 = own v26 ((hexL (l.take (i + 1))).length) ((hexL (l.take (i + 1))).map B) 5 1 from ownM_cast (hex_step2 (by omega)))) ?_
    exact tk_again ((i + 1, v26)) (by dsimp only; omega) (by dsimp only; omega) (by repeat (first | exact trivial | refine ⟨rfl, ?_⟩)) (.cons _ (List.Sublist.refl _))
  · skip
    refine tk_exit ?_
    refine tk_then_exit ?_
    refine tk_then_exit ?_
    refine tk_in_hit ?_
    refine tk_then ?_
    refine tk_seq ?_
    refine tk_region ?_
    refine tk_q rfl rfl rfl (y_move rfl) ?_
    refine tk_q rfl rfl rfl (y_str (l := hexL (l.take i)) rfl rfl rfl rfl (fun w hw => own_rdS (hw.mem (.head _)))) ?_
    refine tk_re 28 (Str (hexL (l.take i))) (Str (hexL l)) rfl (by rw [show i = l.length by omega, List.take_length]) ?_
    refine tk_q rfl rfl rfl (y_assign rfl) ?_
    refine tk_nil ?_
    refine tk_then ?_
    refine tk_retc ?_
    exact tk_ret (()) (trivial) (.inl rfl) (r1 rfl rfl) (List.nil_sublist _)
theorem four_spec {n : Nat} {w : World} : Spec Tryd.prog 72 [I (n : Int)] w [] (fun _ : Unit => True) (fun _ => Str (four n)) (fun _ => []) := by
  refine spec_of (n := 16) Tryd.func72 rfl rfl trivial trivial rfl ?_
  refine tk_seq ?_
  refine tk_region ?_
  refine tk_q rfl rfl rfl (y_assign rfl) ?_
  refine tk_nil ?_
  refine tk_then ?_
  refine tk_seq ?_
  refine tk_region ?_
  refine tk_q rfl rfl rfl (y_move rfl) ?_
  refine tk_q rfl rfl rfl (y_shrN (k := .i64) (k' := .u64) (a := n) (m := 24) rfl rfl (by decide)) ?_
  refine tk_q rfl rfl rfl (y_convi8 (m := n / 2 ^ 24) rfl rfl rfl) ?_
  refine tk_q rfl rfl rfl (y_move rfl) ?_
  refine tk_q rfl rfl rfl (y_shrN (k := .i64) (k' := .u64) (a := n) (m := 16) rfl rfl (by decide)) ?_
  refine tk_q rfl rfl rfl (y_convi8 (m := n / 2 ^ 16) rfl rfl rfl) ?_
  refine tk_q rfl rfl rfl (y_move rfl) ?_
  refine tk_q rfl rfl rfl (y_shrN (k := .i64) (k' := .u64) (a := n) (m := 8) rfl rfl (by decide)) ?_
  refine tk_q rfl rfl rfl (y_convi8 (m := n / 2 ^ 8) rfl rfl rfl) ?_
  refine tk_q rfl rfl rfl (y_move rfl) ?_
  refine tk_q rfl rfl rfl (y_convi8 (m := n) rfl rfl rfl) ?_
  refine tk_act rfl ?_; refine a_slitN (vs := [B (UInt8.ofNat (n / 2 ^ 24)), B (UInt8.ofNat (n / 2 ^ 16)), B (UInt8.ofNat (n / 2 ^ 8)), B (UInt8.ofNat n)]) rfl (List.forall_mem_cons.2 ⟨rfl, (List.forall_mem_cons.2 ⟨rfl, (List.forall_mem_cons.2 ⟨rfl, (List.forall_mem_cons.2 ⟨rfl, (fun _ h => nomatch h)⟩)⟩)⟩)⟩) (EL26) rfl rfl (by decide) fun b14 => ?_
  refine tk_q rfl rfl rfl (y_str (l := [UInt8.ofNat (n / 2 ^ 24), UInt8.ofNat (n / 2 ^ 16), UInt8.ofNat (n / 2 ^ 8), UInt8.ofNat n]) rfl rfl rfl rfl (fun w hw => cel_rdE (o := 0) (m := 4) (cp := 4) (vs := [UInt8.ofNat (n / 2 ^ 24), UInt8.ofNat (n / 2 ^ 16), UInt8.ofNat (n / 2 ^ 8), UInt8.ofNat n].map B) (hw.mem (.head _)) (rfl) (by first | rfl | (simp; done) | (simp; omega)) (by first | omega | (simp; done) | (simp; omega)))) ?_
  refine tk_q rfl rfl rfl (y_assign rfl) ?_
  refine tk_nil ?_
  refine tk_then ?_
  refine tk_retc ?_
  exact tk_ret (()) (trivial) (.inl rfl) (r1 rfl rfl) (List.nil_sublist _)
theorem rbegin_spec {kind : UInt8} {w : World} : Spec Tryd.prog 69 [B kind] w [] (fun _ : Unit => True) (fun _ => Str [72, 89, kind]) (fun _ => []) := by
  refine spec_of (n := 7) Tryd.func69 rfl rfl trivial trivial rfl ?_
  refine tk_seq ?_
  refine tk_region ?_
  refine tk_q rfl rfl rfl (y_assign rfl) ?_
  refine tk_nil ?_
  refine tk_then ?_
  refine tk_seq ?_
  refine tk_region ?_
  refine tk_q rfl rfl rfl (y_move rfl) ?_
  refine tk_act rfl ?_; refine a_slitN (vs := [B kind]) rfl (List.forall_mem_cons.2 ⟨rfl, (fun _ h => nomatch h)⟩) (EL26) rfl rfl (by decide) fun b4 => ?_
  refine tk_q rfl rfl rfl (y_str (l := [kind]) rfl rfl rfl rfl (fun w hw => cel_rdE (o := 0) (m := 1) (cp := 1) (vs := [kind].map B) (hw.mem (.head _)) (rfl) (by first | rfl | (simp; done) | (simp; omega)) (by first | omega | (simp; done) | (simp; omega)))) ?_
  refine tk_q rfl rfl rfl (y_catT (l := [72, 89]) (m := [kind]) rfl rfl lenP) ?_
  refine tk_q rfl rfl rfl (y_assign rfl) ?_
  refine tk_nil ?_
  refine tk_then ?_
  refine tk_retc ?_
  exact tk_ret (()) (trivial) (.inl rfl) (r1 rfl rfl) (List.nil_sublist _)
theorem rnum_spec {n : Nat} {w : World} (hn : n < 4611686018427387904) : Spec Tryd.prog 70 [I (n : Int)] w [] (fun _ : Unit => True) (fun _ => Str (numL n)) (fun _ => []) := by
  refine spec_of (n := 22) Tryd.func70 rfl rfl trivial trivial rfl ?_
  have hn9 := numL_len 8 (n := n) (by omega)
  refine tk_seq ?_
  refine tk_region ?_
  refine tk_q rfl rfl rfl (y_assign rfl) ?_
  refine tk_nil ?_
  refine tk_then ?_
  refine tk_seq ?_
  refine tk_region ?_
  refine tk_q rfl rfl rfl (y_assign rfl) ?_
  refine tk_nil ?_
  refine tk_then ?_
  refine tk_seq ?_
  refine tk_block ?_
  refine tk_loop (X := List UInt8 × Nat) (fun (a, m) => a ++ numL m = numL n ∧ m < 4611686018427387904) (fun (a, m) => [(0, I ((m : Nat) : Int)), (2, Str []), (3, Str a)]) (fun (a, m) => []) (fun (a, m) => m) (([], n)) (⟨rfl, by omega⟩) (by repeat (first | exact trivial | refine ⟨rfl, ?_⟩)) ((List.Sublist.refl _)) ?_
  rintro ⟨a, m⟩ hI
  try dsimp only at hI ⊢
  have hla := congrArg List.length hI.1
  rw [List.length_append] at hla
  refine tk_seq ?_
  refine tk_seq ?_
  refine tk_region ?_
  refine tk_q rfl rfl rfl (y_move rfl) ?_
  refine tk_q rfl rfl rfl (y_geq rfl rfl) ?_
  refine tk_nil ?_
  refine tk_then ?_
  refine tk_condP rfl (fun ht5 => ?_) (fun ht5 => ?_)
  · skip
    refine tk_skip ?_
    refine tk_then ?_
    refine tk_block ?_
    refine tk_seq ?_
    refine tk_region ?_
    refine tk_q rfl rfl rfl (y_move rfl) ?_
    refine tk_q rfl rfl rfl (y_move rfl) ?_
    refine tk_q rfl rfl rfl (y_remN (a := m) (b := 128) rfl rfl (by omega)) ?_
    refine tk_q rfl rfl rfl (y_addN (a := m % 128) (b := 128) rfl rfl (by omega)) ?_
    refine tk_q rfl rfl rfl (y_convi8 (m := (m % 128) + 128) rfl rfl rfl) ?_
    refine tk_act rfl ?_; refine a_slitN (vs := [B (UInt8.ofNat ((m % 128) + 128))]) rfl (List.forall_mem_cons.2 ⟨rfl, (fun _ h => nomatch h)⟩) (EL26) rfl rfl (by decide) fun b11 => ?_
    refine tk_q rfl rfl rfl (y_str (l := [UInt8.ofNat ((m % 128) + 128)]) rfl rfl rfl rfl (fun w hw => cel_rdE (o := 0) (m := 1) (cp := 1) (vs := [UInt8.ofNat ((m % 128) + 128)].map B) (hw.mem (.head _)) (rfl) (by first | rfl | (simp; done) | (simp; omega)) (by first | omega | (simp; done) | (simp; omega)))) ?_
    refine tk_q rfl rfl rfl (y_catT (l := a) (m := [UInt8.ofNat ((m % 128) + 128)]) rfl rfl lenP) ?_
    refine tk_q rfl rfl rfl (y_assign rfl) ?_
    refine tk_nil ?_
    refine tk_then ?_
    refine tk_region ?_
    refine tk_q rfl rfl rfl (y_move rfl) ?_
    refine tk_q rfl rfl rfl (y_quoN (a := m) (b := 128) rfl rfl (by omega)) ?_
    refine tk_q rfl rfl rfl (y_assign rfl) ?_
    refine tk_nil ?_
    refine tk_in_normal ?_
    exact tk_again ((a ++ [UInt8.ofNat (m % 128 + 128)], m / 128)) (⟨by dsimp only; rw [← hI.1, numL_ge (n := m) (by omega)]; simp, by dsimp only; omega⟩) (by dsimp only; omega) (by repeat (first | exact trivial | refine ⟨rfl, ?_⟩)) (List.nil_sublist _)
  · skip
    refine tk_exit ?_
    refine tk_then_exit ?_
    refine tk_then_exit ?_
    refine tk_in_hit ?_
    refine tk_then ?_
    refine tk_seq ?_
    refine tk_region ?_
    refine tk_q rfl rfl rfl (y_move rfl) ?_
    refine tk_q rfl rfl rfl (y_move rfl) ?_
    refine tk_q rfl rfl rfl (y_convi8 (m := m) rfl rfl rfl) ?_
    refine tk_act rfl ?_; refine a_slitN (vs := [B (UInt8.ofNat m)]) rfl (List.forall_mem_cons.2 ⟨rfl, (fun _ h => nomatch h)⟩) (EL26) rfl rfl (by decide) fun b19 => ?_
    refine tk_q rfl rfl rfl (y_str (l := [UInt8.ofNat m]) rfl rfl rfl rfl (fun w hw => cel_rdE (o := 0) (m := 1) (cp := 1) (vs := [UInt8.ofNat m].map B) (hw.mem (.head _)) (rfl) (by first | rfl | (simp; done) | (simp; omega)) (by first | omega | (simp; done) | (simp; omega)))) ?_
    refine tk_q rfl rfl rfl (y_catT (l := a) (m := [UInt8.ofNat m]) rfl rfl lenP) ?_
    refine tk_re 21 (Str (a ++ [UInt8.ofNat m])) (Str (numL n)) rfl (by rw [← hI.1, numL_lt (n := m) (by omega)]) ?_
    refine tk_q rfl rfl rfl (y_assign rfl) ?_
    refine tk_nil ?_
    refine tk_then ?_
    refine tk_retc ?_
    exact tk_ret (()) (trivial) (.inl rfl) (r1 rfl rfl) (List.nil_sublist _)
theorem rofL_spec {l : List UInt8} {w : World} (hl : l.length = 32) : Spec Tryd.prog 98 [Str l] w [] (fun _ : Unit => True) (fun _ => Ag l) (fun _ => []) := by
  refine spec_of (n := 8) Tryd.func98 rfl rfl trivial trivial rfl ?_
  refine tk_seq ?_
  refine tk_region ?_
  refine tk_act rfl ?_; refine a_allocL (cs := (List.replicate 32 0).map B) (by kernel_rfl) rfl fun b2 => ?_
  refine tk_nil ?_
  refine tk_then ?_
  refine tk_seq ?_
  refine tk_region ?_
  refine tk_act rfl ?_; refine a_allocL (cs := (List.replicate 32 0).map B) (by kernel_rfl) rfl fun b3 => ?_
  refine tk_nil ?_
  refine tk_then ?_
  refine tk_seq ?_
  refine tk_region ?_
  refine tk_q rfl rfl rfl (y_cutA (m := 32) (sz := 1) rfl (by kernel_rfl)) ?_
  refine tk_q rfl rfl rfl (y_move rfl) ?_
  refine tk_act rfl ?_; refine a_copyS (H1 := []) (n := 32) (l := l) rfl rfl rfl (by kernel_rfl) rfl rfl lenP (by simp) ?_
  refine tk_nil ?_
  refine tk_then ?_
  refine tk_seq ?_
  refine tk_region ?_
  refine tk_q rfl rfl rfl (y_loadA 32 rfl (by kernel_rfl) lenP (hcw (.head _))) ?_
  refine tk_act rfl ?_; refine a_storeW (H1 := [_]) (vs := l.map B) 32 rfl rfl (by kernel_rfl) rfl ⟨lenP, lenP⟩ oneB ?_
  refine tk_nil ?_
  refine tk_then ?_
  refine tk_retc ?_
  exact tk_ret (()) (trivial) (.inl rfl) (rc (vs := l.map B) rfl rfl (by rw [List.length_map, hl]; kernel_rfl) (hcw (.tail _ (.head _)))) (List.nil_sublist _)
theorem label_spec {l : List UInt8} {w : World} (hl : l.length = 32) : Spec Tryd.prog 63 [Ag l] w [] (fun _ : Unit => True) (fun _ => Str (hexL l)) (fun _ => []) := by
  refine spec_of (n := 5) Tryd.func63 rfl rfl trivial trivial rfl ?_
  refine tk_seq ?_
  refine tk_region ?_
  refine tk_act rfl ?_; refine a_boxL (cs := l.map B) rfl rfl fun b1 => ?_
  refine tk_q rfl rfl rfl (y_assign rfl) ?_
  refine tk_nil ?_
  refine tk_then ?_
  refine tk_seq ?_
  refine tk_region ?_
  refine tk_q rfl rfl rfl (y_loadA 32 rfl (by kernel_rfl) lenP (hcw (.head _))) ?_
  refine tk_act rfl ?_; refine a_callv [] _ rfl (by kernel_rfl) rfl (fun w' hw' => text_spec (l := l) hl) rfl fun _ _ => ?_
  refine tk_q rfl rfl rfl (y_assign rfl) ?_
  refine tk_nil ?_
  refine tk_then ?_
  refine tk_retc ?_
  exact tk_ret (()) (trivial) (.inl rfl) (r1 rfl rfl) (List.nil_sublist _)
end Go.Proofs.YtfofkjajlfphjaaDoor

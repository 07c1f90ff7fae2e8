/- cell's reference: the walk over Tape. -/
import Derived.Test.YtfofkjajlfphjaaDoorKeyG
import Derived.Test.YtfofkjajlfphjaaDoorEngTwo
import Derived.Test.YtfofkjajlfphjaaDoorSumD
set_option linter.unusedSimpArgs false
set_option linter.unusedVariables false
namespace Go.Proofs.YtfofkjajlfphjaaDoor
open Go Go.RowKit
set_option maxRecDepth 100000
theorem tape_cut {b : List UInt8} {c p n : Nat} (h : p / 32 ≤ c ∧ p % 32 + n ≤ 32 * (c - p / 32)) : (((tapeL b c).drop (32 * (p / 32))).drop (p % 32)).take (p % 32 + n - p % 32) = tapeN b p n := by
  rw [List.drop_drop, show 32 * (p / 32) + p % 32 = p by omega, show p % 32 + n - p % 32 = n by omega]
  exact tapeN_eq (by omega)
attribute [local irreducible] sumL tapeL bej be8 tapeN
theorem rtape_spec {b : List UInt8} {p n : Nat} {w : World} (hlb : b.length < 1099511627776) (hpn : p < 1000000000000 ∧ n < 1000000000000) :
    Spec Tryd.prog 25 [Str b, I (p : Int), I (n : Int)] w [] (fun _ : Unit => True) (fun _ => Str (tapeN b p n)) (fun _ => []) := by
  refine spec_of (n := 49) Tryd.func25 rfl rfl trivial trivial rfl ?_
  refine tk_seq ?_
  refine tk_region ?_
  refine tk_q rfl rfl rfl (y_assign rfl) ?_
  refine tk_nil ?_
  refine tk_then ?_
  refine tk_seq ?_
  refine tk_region ?_
  refine tk_q rfl rfl rfl (y_assign rfl) ?_
  refine tk_nil ?_
  refine tk_then ?_
  refine tk_seq ?_
  refine tk_seq ?_
  refine tk_region ?_
  refine tk_q rfl rfl rfl (y_move rfl) ?_
  refine tk_q rfl rfl rfl (y_quoN (a := p) (b := 32) rfl rfl (by omega)) ?_
  refine tk_q rfl rfl rfl (y_assign rfl) ?_
  refine tk_nil ?_
  refine tk_then ?_
  refine tk_block ?_
  refine tk_ownM0 (f := B) 5 ?_
  refine tk_H [own (.slice none 0 0) (((tapeL b (p / 32)).drop (32 * (p / 32))).length) (((tapeL b (p / 32)).drop (32 * (p / 32))).map B) 5 1] (congrArg (fun z_ => [z_]) (show own (.slice none 0 0) (([] : List UInt8).length) (([] : List UInt8).map B) 5 1 = own (.slice none 0 0) (((tapeL b (p / 32)).drop (32 * (p / 32))).length) (((tapeL b (p / 32)).drop (32 * (p / 32))).map B) 5 1 from ownM_cast (List.drop_of_length_le (by simp)).symm)) ?_
  refine tk_loop (X := Nat × Value) (fun (c, vo) => p / 32 ≤ c ∧ 32 * (c - p / 32) < p % 32 + n + 32) (fun (c, vo) => [(0, Str b), (1, I ((p : Nat) : Int)), (2, I ((n : Nat) : Int)), (6, Str []), (7, vo), (8, I ((c : Nat) : Int))]) (fun (c, vo) => [own vo (((tapeL b c).drop (32 * (p / 32))).length) (((tapeL b c).drop (32 * (p / 32))).map B) 5 1]) (fun (c, vo) => p % 32 + n + 32 - 32 * (c - p / 32)) ((p / 32, .slice none 0 0)) (⟨Nat.le_refl _, by omega⟩) (by repeat (first | exact trivial | refine ⟨rfl, ?_⟩)) ((List.Sublist.refl _)) ?_
  rintro ⟨c, vo⟩ hI
  try dsimp only at hI ⊢
  have hlen : ((tapeL b c).drop (32 * (p / 32))).length = 32 * (c - p / 32) := by simp; omega
  refine tk_own1 (.head _) fun hfo => ?_
  refine tk_seq ?_
  refine tk_seq ?_
  refine tk_region ?_
  refine tk_q rfl rfl rfl (y_move rfl) ?_
  refine tk_q rfl rfl rfl (y_lenRN (n' := ((tapeL b c).drop (32 * (p / 32))).length) rfl hfo.choose_spec rfl (by first | rfl | (rw [List.length_map]; omega) | simp)) ?_
  refine tk_q rfl rfl rfl (y_move rfl) ?_
  refine tk_q rfl rfl rfl (y_remN (a := p) (b := 32) rfl rfl (by omega)) ?_
  refine tk_q rfl rfl rfl (y_move rfl) ?_
  refine tk_q rfl rfl rfl (y_addN (a := p % 32) (b := n) rfl rfl (by omega)) ?_
  refine tk_q rfl rfl rfl (y_lss rfl rfl) ?_
  refine tk_nil ?_
  refine tk_then ?_
  refine tk_condP rfl (fun ht19 => ?_) (fun ht19 => ?_)
  · skip
    refine tk_skip ?_
    refine tk_then ?_
    refine tk_seq ?_
    refine tk_block ?_
    refine tk_seq ?_
    refine tk_region ?_
    refine tk_q rfl rfl rfl (y_assign rfl) ?_
    refine tk_nil ?_
    refine tk_then ?_
    refine tk_seq ?_
    refine tk_seq ?_
    refine tk_region ?_
    refine tk_q rfl rfl rfl (y_assign rfl) ?_
    refine tk_nil ?_
    refine tk_then ?_
    refine tk_block ?_
    refine tk_ownM0 (f := B) 5 ?_
    refine tk_H [own (.slice none 0 0) ((bej c 0).length) ((bej c 0).map B) 5 1, own vo (((tapeL b c).drop (32 * (p / 32))).length) (((tapeL b c).drop (32 * (p / 32))).map B) 5 1] (congrArg (fun z_ => [z_, own vo (((tapeL b c).drop (32 * (p / 32))).length) (((tapeL b c).drop (32 * (p / 32))).map B) 5 1]) (show own (.slice none 0 0) (([] : List UInt8).length) (([] : List UInt8).map B) 5 1 = own (.slice none 0 0) ((bej c 0).length) ((bej c 0).map B) 5 1 from ownM_cast bej_0.symm)) ?_
    refine tk_loop (X := Nat × Value) (fun (j, vn) => j ≤ 8) (fun (j, vn) => [(0, Str b), (1, I ((p : Nat) : Int)), (2, I ((n : Nat) : Int)), (6, Str []), (7, vo), (8, I ((c : Nat) : Int)), (9, vn), (10, I (56 - 8 * (j : Int)))]) (fun (j, vn) => [own vn ((bej c j).length) ((bej c j).map B) 5 1, own vo (((tapeL b c).drop (32 * (p / 32))).length) (((tapeL b c).drop (32 * (p / 32))).map B) 5 1]) (fun (j, vn) => 8 - j) ((0, .slice none 0 0)) (Nat.zero_le _) (by repeat (first | exact trivial | refine ⟨rfl, ?_⟩)) ((List.Sublist.refl _)) ?_
    rintro ⟨j, vn⟩ hI
    try dsimp only at hI ⊢
    have hln : (bej c j).length = j := bej_len
    refine tk_own1 (.head _) fun hfn => ?_
    refine tk_seq ?_
    refine tk_seq ?_
    refine tk_region ?_
    refine tk_q rfl rfl rfl (y_move rfl) ?_
    refine tk_q rfl rfl rfl (y_geq rfl rfl) ?_
    refine tk_nil ?_
    refine tk_then ?_
    refine tk_condP rfl (fun ht23 => ?_) (fun ht23 => ?_)
    · skip
      refine tk_skip ?_
      refine tk_then ?_
      refine tk_seq ?_
      refine tk_block ?_
      refine tk_region ?_
      refine tk_re 10 (I (56 - 8 * (j : Int))) (I ((56 - 8 * j : Nat) : Int)) rfl (congrArg I (by omega)) ?_
      refine tk_q rfl rfl rfl (y_move rfl) ?_
      refine tk_q rfl rfl rfl (y_move rfl) ?_
      refine tk_q rfl rfl rfl (y_move rfl) ?_
      refine tk_q rfl rfl rfl (y_shrN (a := c) (m := 56 - 8 * j) rfl rfl (by simp [IntKind.bits]; omega)) ?_
      refine tk_q rfl rfl rfl (y_convi8 (m := c / 2 ^ (56 - 8 * j)) rfl rfl rfl) ?_
      refine tk_act rfl ?_; refine a_slitN (vs := [B (UInt8.ofNat (c / 2 ^ (56 - 8 * j)))]) rfl (List.forall_mem_cons.2 ⟨rfl, (fun _ h => nomatch h)⟩) (EL26) rfl rfl (by decide) fun b31 => ?_
      refine tk_act rfl ?_; refine a_appM (H1 := [_]) (f := B) (l := bej c j) (m := [UInt8.ofNat (c / 2 ^ (56 - 8 * j))]) rfl rfl EL26 rfl rfl (fun w hw => cel_rdE (o := 0) (m := 1) (cp := 1) (vs := [UInt8.ofNat (c / 2 ^ (56 - 8 * j))].map B) (hw.mem (.head _)) (rfl) (by first | rfl | (simp; done) | (simp; omega)) (by first | omega | (simp; done) | (simp; omega))) (fun _ => rfl) ⟨lenP, lenP⟩ fun v32 => ?_
      refine tk_own1 (.tail _ (.head _)) fun hfv32 => ?_
      refine tk_q rfl rfl rfl (y_assign rfl) ?_
      refine tk_nil ?_
      refine tk_in_normal ?_
      refine tk_then ?_
      refine tk_region ?_
      refine tk_re 10 (I ((56 - 8 * j : Nat) : Int)) (I (56 - 8 * (j : Int))) rfl (congrArg I (by omega)) ?_
      refine tk_q rfl rfl rfl (y_move rfl) ?_
      refine tk_q rfl rfl rfl (y_subI rfl rfl (by omega)) ?_
      refine tk_q rfl rfl rfl (y_assign rfl) ?_
      refine tk_nil ?_
      refine tk_re 10 (I ((56 - 8 * (j : Int)) - (8 : Int))) (I (56 - 8 * ((j + 1 : Nat) : Int))) rfl (congrArg I (by omega)) ?_
      refine tk_H [cel b31 ([B (UInt8.ofNat (c / 2 ^ (56 - 8 * j)))]) 5, own v32 ((bej c (j + 1)).length) ((bej c (j + 1)).map B) 5 1, own vo (((tapeL b c).drop (32 * (p / 32))).length) (((tapeL b c).drop (32 * (p / 32))).map B) 5 1] (congrArg (fun z_ => [cel b31 ([B (UInt8.ofNat (c / 2 ^ (56 - 8 * j)))]) 5, z_, own vo (((tapeL b c).drop (32 * (p / 32))).length) (((tapeL b c).drop (32 * (p / 32))).map B) 5 1]) (show own v32 (((bej c j) ++ [UInt8.ofNat (c / 2 ^ (56 - 8 * j))]).length) (((bej c j) ++ [UInt8.ofNat (c / 2 ^ (56 - 8 * j))]).map B) 5 1 = own v32 ((bej c (j + 1)).length) ((bej c (j + 1)).map B) 5 1 from ownM_cast bej_snoc)) ?_
      exact tk_again ((j + 1, v32)) (by dsimp only; omega) (by dsimp only; omega) (by repeat (first | exact trivial | refine ⟨rfl, ?_⟩)) (.cons _ (List.Sublist.refl _))
    · skip
      refine tk_H [own vn ((be8 c).length) ((be8 c).map B) 5 1, own vo (((tapeL b c).drop (32 * (p / 32))).length) (((tapeL b c).drop (32 * (p / 32))).map B) 5 1] (congrArg (fun z_ => [z_, own vo (((tapeL b c).drop (32 * (p / 32))).length) (((tapeL b c).drop (32 * (p / 32))).map B) 5 1]) (show own vn ((bej c j).length) ((bej c j).map B) 5 1 = own vn ((be8 c).length) ((be8 c).map B) 5 1 from ownM_cast (by rw [show j = 8 by omega, be8_def]))) ?_
      refine tk_own1 (.head _) fun hfn => ?_
      have hl8 : (be8 c).length = 8 := be8_len
      refine tk_exit ?_
      refine tk_then_exit ?_
      refine tk_then_exit ?_
      refine tk_in_hit ?_
      refine tk_then ?_
      refine tk_region ?_
      refine tk_q rfl rfl rfl (y_move rfl) ?_
      refine tk_q rfl rfl rfl (y_move rfl) ?_
      refine tk_q rfl rfl rfl (y_move rfl) ?_
      refine tk_q rfl rfl rfl (y_str (l := be8 c) rfl rfl rfl rfl (fun w hw => own_rdS (hw.mem (.head _)))) ?_
      refine tk_q rfl rfl rfl (y_catT (l := b) (m := be8 c) rfl rfl lenP) ?_
      refine tk_act rfl ?_; refine a_callv [] _ rfl (by kernel_rfl) rfl (fun w' hw' => rof_spec (l := b ++ (be8 c)) lenP) rfl fun _ _ => ?_
      refine tk_act rfl ?_; refine a_appStr (H1 := [_]) (l := (tapeL b c).drop (32 * (p / 32))) (m := sumL (b ++ (be8 c))) rfl rfl EL26 Tryd.underlying9 rfl rfl ⟨lenP, lenP⟩ fun v39 => ?_
      refine tk_own1 (.tail _ (.head _)) fun hfv39 => ?_
      refine tk_q rfl rfl rfl (y_assign rfl) ?_
      refine tk_nil ?_
      refine tk_in_normal ?_
      refine tk_then ?_
      refine tk_region ?_
      refine tk_q rfl rfl rfl (y_move rfl) ?_
      refine tk_q rfl rfl rfl (y_addN (a := c) (b := 1) rfl rfl (by omega)) ?_
      refine tk_q rfl rfl rfl (y_assign rfl) ?_
      refine tk_nil ?_
      refine tk_H [own vn ((be8 c).length) ((be8 c).map B) 5 1, own v39 (((tapeL b (c + 1)).drop (32 * (p / 32))).length) (((tapeL b (c + 1)).drop (32 * (p / 32))).map B) 5 1] (congrArg (fun z_ => [own vn ((be8 c).length) ((be8 c).map B) 5 1, z_]) (show own v39 ((((tapeL b c).drop (32 * (p / 32))) ++ (sumL (b ++ (be8 c)))).length) ((((tapeL b c).drop (32 * (p / 32))) ++ (sumL (b ++ (be8 c)))).map B) 5 1 = own v39 (((tapeL b (c + 1)).drop (32 * (p / 32))).length) (((tapeL b (c + 1)).drop (32 * (p / 32))).map B) 5 1 from ownM_cast (tape_more (by omega)))) ?_
      exact tk_again ((c + 1, v39)) (⟨by dsimp only; omega, by dsimp only; omega⟩) (by dsimp only; omega) (by repeat (first | exact trivial | refine ⟨rfl, ?_⟩)) (.cons _ (List.Sublist.refl _))
  · skip
    refine tk_exit ?_
    refine tk_then_exit ?_
    refine tk_then_exit ?_
    refine tk_in_hit ?_
    refine tk_then ?_
    refine tk_seq ?_
    refine tk_region ?_
    refine tk_q rfl rfl rfl (y_move rfl) ?_
    refine tk_q rfl rfl rfl (y_move rfl) ?_
    refine tk_q rfl rfl rfl (y_remN (a := p) (b := 32) rfl rfl (by omega)) ?_
    refine tk_q rfl rfl rfl (y_move rfl) ?_
    refine tk_q rfl rfl rfl (y_remN (a := p) (b := 32) rfl rfl (by omega)) ?_
    refine tk_q rfl rfl rfl (y_move rfl) ?_
    refine tk_q rfl rfl rfl (y_addN (a := p % 32) (b := n) rfl rfl (by omega)) ?_
    refine tk_q rfl rfl rfl (y_cutRBlh (l := (tapeL b c).drop (32 * (p / 32))) (p % 32) ((p % 32) + n) rfl rfl rfl hfo.choose_spec (by kernel_rfl) ⟨lenP, lenP⟩ rfl rfl) ?_
    refine tk_qe (Str (tapeN b p n)) rfl rfl rfl (y_str (l := (((tapeL b c).drop (32 * (p / 32))).drop (p % 32)).take (((p % 32) + n) - (p % 32))) rfl rfl rfl rfl (fun w hw => RdS.cutB ((fun w hw => own_rdS (hw.mem (.head _))) w hw) (lo := p % 32) (hi := (p % 32) + n) ⟨lenP, lenP⟩)) (by rw [tape_cut (by omega)]) ?_
    refine tk_q rfl rfl rfl (y_assign rfl) ?_
    refine tk_nil ?_
    refine tk_then ?_
    refine tk_retc ?_
    exact tk_ret (()) (trivial) (.inl rfl) (r1 rfl rfl) (List.nil_sublist _)
end Go.Proofs.YtfofkjajlfphjaaDoor

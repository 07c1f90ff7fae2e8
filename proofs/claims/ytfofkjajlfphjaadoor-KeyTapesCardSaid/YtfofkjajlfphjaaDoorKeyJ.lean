/- key: Make without a word. -/
import Derived.Test.YtfofkjajlfphjaaDoorKeyI
set_option linter.unusedSimpArgs false
set_option linter.unusedVariables false
namespace Go.Proofs.YtfofkjajlfphjaaDoor
open Go Go.RowKit
set_option maxRecDepth 100000
theorem maken_spec {sv : Value} {s : List UInt8} {n : Nat} {w : World} (hs : Ro (Fs []) w (rdB sv s)) (hs16 : s.length = 16) (hn : n ≤ 100000) :
    Spec Tryd.prog 26 [.slice none 0 0, sv, I (n : Int)] w [] (fun _ : Unit => True) (fun _ => .tuple #[.agg ((List.replicate 32 0).map B ++ ((List.replicate 32 0).map B ++ (List.replicate 32 0).map B)).toArray, I 1]) (fun _ => []) := by
  refine spec_of (n := 40) Tryd.func26 rfl rfl trivial trivial rfl ?_
  refine tk_seq ?_
  refine tk_region ?_
  refine tk_act rfl ?_; refine a_allocL (cs := (List.replicate 32 0).map B ++ ((List.replicate 32 0).map B ++ ((List.replicate 32 0).map B))) (by kernel_rfl) rfl fun b6 => ?_
  refine tk_q rfl rfl rfl (y_assign rfl) ?_
  refine tk_nil ?_
  refine tk_then ?_
  refine tk_seq ?_
  refine tk_seq ?_
  refine tk_region ?_
  refine tk_q rfl rfl rfl (y_move rfl) ?_
  refine tk_q rfl rfl rfl (y_lenRN (n' := 0) rfl (RdS.nil (w := default)) rfl (by first | rfl | (rw [List.length_map]; omega) | simp)) ?_
  refine tk_q rfl rfl rfl ((y_eql rfl rfl).cast (bool_t (by decide))) ?_
  refine tk_q rfl rfl rfl (y_move rfl) ?_
  refine tk_gno rfl rfl rfl ?_
  refine tk_gno rfl rfl rfl ?_
  refine tk_gno rfl rfl rfl ?_
  refine tk_q rfl rfl rfl (y_pick1 rfl rfl) ?_
  refine tk_q rfl rfl rfl (y_move rfl) ?_
  refine tk_gno rfl rfl rfl ?_
  refine tk_gno rfl rfl rfl ?_
  refine tk_q rfl rfl rfl (y_pick1 rfl rfl) ?_
  refine tk_q rfl rfl rfl (y_move rfl) ?_
  refine tk_gno rfl rfl rfl ?_
  refine tk_gno rfl rfl rfl ?_
  refine tk_q rfl rfl rfl (y_pick1 rfl rfl) ?_
  refine tk_nil ?_
  refine tk_then ?_
  refine tk_cond1 rfl ?_
  refine tk_seq ?_
  refine tk_region ?_
  refine tk_q rfl rfl rfl (y_build (v := .agg ((List.replicate 32 0).map B ++ ((List.replicate 32 0).map B ++ ((List.replicate 32 0).map B))).toArray) (vs := []) rfl (fun _ => by kernel_rfl)) ?_
  refine tk_act rfl ?_; refine a_storeW (H1 := []) (vs := (List.replicate 32 0).map B ++ ((List.replicate 32 0).map B ++ ((List.replicate 32 0).map B))) 96 rfl rfl (by kernel_rfl) rfl ⟨lenP, lenP⟩ (List.forall_mem_append.2 ⟨oneB, (List.forall_mem_append.2 ⟨oneB, oneB⟩)⟩) ?_
  refine tk_q rfl rfl rfl (y_assign rfl) ?_
  refine tk_nil ?_
  refine tk_then ?_
  refine tk_retc ?_
  refine tk_then_ret ?_
  exact tk_ret (()) (trivial) (.inl rfl) (rct (vs := (List.replicate 32 0).map B ++ ((List.replicate 32 0).map B ++ ((List.replicate 32 0).map B))) rfl rfl (by simp; kernel_rfl) (hcw (.head _)) rfl) (List.nil_sublist _)
end Go.Proofs.YtfofkjajlfphjaaDoor

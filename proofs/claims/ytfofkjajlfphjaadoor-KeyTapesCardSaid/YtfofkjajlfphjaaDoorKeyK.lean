/- key: the walk over rings. -/
import Derived.Test.YtfofkjajlfphjaaDoorKeyJ
import Derived.Test.YtfofkjajlfphjaaDoorKeyNum
set_option linter.unusedSimpArgs false
set_option linter.unusedVariables false
namespace Go.Proofs.YtfofkjajlfphjaaDoor
open Go Go.RowKit
set_option maxRecDepth 100000
attribute [local irreducible] sumL keyedL strL
theorem rings_spec {w : World} (hg : Ro (Fs []) w glob) : Spec Tryd.prog 23 [] w [] (fun _ : Unit => True) (fun _ => .bool true) (fun _ => []) := by
  refine spec_of (n := 38) Tryd.func23 rfl rfl trivial trivial rfl ?_
  refine tk_seq ?_
  refine tk_region ?_
  refine tk_q rfl rfl rfl (y_assign rfl) ?_
  refine tk_nil ?_
  refine tk_then ?_
  refine tk_seq ?_
  refine tk_region ?_
  refine tk_act rfl ?_; refine a_slitN (vs := [B 119, B 111, B 114, B 100]) rfl (List.forall_mem_cons.2 ⟨rfl, (List.forall_mem_cons.2 ⟨rfl, (List.forall_mem_cons.2 ⟨rfl, (List.forall_mem_cons.2 ⟨rfl, (fun _ h => nomatch h)⟩)⟩)⟩)⟩) (EL26) rfl rfl (by decide) fun b6 => ?_
  refine tk_act rfl ?_; refine a_convX (H1 := []) rfl Tryd.underlying26 Tryd.underlying5 rfl rfl ?_
  refine tk_act rfl ?_; refine a_callv [] _ rfl (by kernel_rfl) rfl (fun w' hw' => salt_spec) rfl fun b8 _ => ?_
  refine tk_act rfl ?_; refine a_callv [] _ rfl (by kernel_rfl) rfl (fun w' hw' => make_spec (k := [119, 111, 114, 100]) (s := [48, 49, 50, 51, 52, 53, 54, 55, 56, 57, 97, 98, 99, 100, 101, 102]) (n := 1) (Ro.cel (H0 := []) (b := b6) (o := 0) (m := 4) (cp := 4) (vs := [119, 111, 114, 100].map B) hw' (.tail _ (.head _)) (rfl) (by first | rfl | (simp; done) | (simp; omega)) (by first | omega | (simp; done) | (simp; omega))) (Ro.cel (H0 := []) (b := b8) (o := 0) (m := 16) (cp := 16) (vs := [48, 49, 50, 51, 52, 53, 54, 55, 56, 57, 97, 98, 99, 100, 101, 102].map B) hw' (.head _) (rfl) (by first | rfl | (simp; done) | (simp; omega)) (by first | omega | (simp; done) | (simp; omega))) ⟨lenP, lenP⟩ lenP lenP (hg.call hw')) rfl fun _ _ => ?_
  refine tk_q rfl rfl rfl (y_move rfl) ?_
  refine tk_q rfl rfl rfl (y_extract rfl rfl) ?_
  refine tk_q rfl rfl rfl (y_extract rfl rfl) ?_
  refine tk_act rfl ?_; refine a_allocL (cs := (List.replicate 32 0).map B ++ ((List.replicate 32 0).map B ++ ((List.replicate 32 0).map B))) (by kernel_rfl) rfl fun b1 => ?_
  refine tk_act rfl ?_; refine a_storeW (H1 := []) (vs := (keyedL (strL [119, 111, 114, 100] [48, 49, 50, 51, 52, 53, 54, 55, 56, 57, 97, 98, 99, 100, 101, 102] 1) [104, 105, 100, 101]).map B ++ ((keyedL (strL [119, 111, 114, 100] [48, 49, 50, 51, 52, 53, 54, 55, 56, 57, 97, 98, 99, 100, 101, 102] 1) [109, 97, 114, 107]).map B ++ ((keyedL (strL [119, 111, 114, 100] [48, 49, 50, 51, 52, 53, 54, 55, 56, 57, 97, 98, 99, 100, 101, 102] 1) [110, 97, 109, 101]).map B))) 96 rfl rfl (by kernel_rfl) rfl ⟨lenP, lenP⟩ (List.forall_mem_append.2 ⟨oneB, (List.forall_mem_append.2 ⟨oneB, oneB⟩)⟩) ?_
  refine tk_q rfl rfl rfl (y_assign rfl) ?_
  refine tk_nil ?_
  refine tk_then ?_
  refine tk_seq ?_
  refine tk_region ?_
  refine tk_act rfl ?_; refine a_callv [] _ rfl (by kernel_rfl) rfl (fun w' hw' => salt_spec) rfl fun b13 _ => ?_
  refine tk_act rfl ?_; refine a_callv [] _ rfl (by kernel_rfl) rfl (fun w' hw' => maken_spec (s := [48, 49, 50, 51, 52, 53, 54, 55, 56, 57, 97, 98, 99, 100, 101, 102]) (n := 1) (Ro.cel (H0 := []) (b := b13) (o := 0) (m := 16) (cp := 16) (vs := [48, 49, 50, 51, 52, 53, 54, 55, 56, 57, 97, 98, 99, 100, 101, 102].map B) hw' (.head _) (rfl) (by first | rfl | (simp; done) | (simp; omega)) (by first | omega | (simp; done) | (simp; omega))) lenP lenP) rfl fun _ _ => ?_
  refine tk_q rfl rfl rfl (y_move rfl) ?_
  refine tk_q rfl rfl rfl (y_extract rfl rfl) ?_
  refine tk_q rfl rfl rfl (y_extract rfl rfl) ?_
  refine tk_act rfl ?_; refine a_allocL (cs := (List.replicate 32 0).map B ++ ((List.replicate 32 0).map B ++ ((List.replicate 32 0).map B))) (by kernel_rfl) rfl fun b3 => ?_
  refine tk_act rfl ?_; refine a_storeW (H1 := []) (vs := (List.replicate 32 0).map B ++ ((List.replicate 32 0).map B ++ ((List.replicate 32 0).map B))) 96 rfl rfl (by kernel_rfl) rfl ⟨lenP, lenP⟩ (List.forall_mem_append.2 ⟨oneB, (List.forall_mem_append.2 ⟨oneB, oneB⟩)⟩) ?_
  refine tk_q rfl rfl rfl (y_assign rfl) ?_
  refine tk_nil ?_
  refine tk_then ?_
  refine tk_seq ?_
  refine tk_region ?_
  refine tk_q rfl rfl rfl (y_move rfl) ?_
  refine tk_q rfl rfl rfl ((y_eql rfl rfl).cast (bool_t (by decide))) ?_
  refine tk_q rfl rfl rfl (y_move rfl) ?_
  refine tk_gq rfl rfl rfl (y_move rfl) ?_
  refine tk_gq rfl rfl rfl ((y_eql rfl rfl).cast (bool_t (by decide))) ?_
  refine tk_q rfl rfl rfl (y_pick1 rfl rfl) ?_
  refine tk_q rfl rfl rfl (y_move rfl) ?_
  refine tk_gq rfl rfl rfl (y_fld0 (o := 0) rfl (by kernel_rfl)) ?_
  refine tk_gq rfl rfl rfl (y_fld0 (o := 0) rfl (by kernel_rfl)) ?_
  refine tk_gq rfl rfl rfl (y_loadA (vs := (keyedL (strL [119, 111, 114, 100] [48, 49, 50, 51, 52, 53, 54, 55, 56, 57, 97, 98, 99, 100, 101, 102] 1) [104, 105, 100, 101]).map B) 32 rfl (by kernel_rfl) lenP (hseg (pre := ([] : List Value)) (post := (keyedL (strL [119, 111, 114, 100] [48, 49, 50, 51, 52, 53, 54, 55, 56, 57, 97, 98, 99, 100, 101, 102] 1) [109, 97, 114, 107]).map B ++ ((keyedL (strL [119, 111, 114, 100] [48, 49, 50, 51, 52, 53, 54, 55, 56, 57, 97, 98, 99, 100, 101, 102] 1) [110, 97, 109, 101]).map B)) (.tail _ (.tail _ (.head _))) lenP (by simp))) ?_
  refine tk_gq rfl rfl rfl (y_fld0 (o := 0) rfl (by kernel_rfl)) ?_
  refine tk_gq rfl rfl rfl (y_fldN (o := 0) 32 rfl (by kernel_rfl)) ?_
  refine tk_gq rfl rfl rfl (y_loadA (vs := (keyedL (strL [119, 111, 114, 100] [48, 49, 50, 51, 52, 53, 54, 55, 56, 57, 97, 98, 99, 100, 101, 102] 1) [109, 97, 114, 107]).map B) 32 rfl (by kernel_rfl) lenP (hseg (pre := (keyedL (strL [119, 111, 114, 100] [48, 49, 50, 51, 52, 53, 54, 55, 56, 57, 97, 98, 99, 100, 101, 102] 1) [104, 105, 100, 101]).map B) (post := (keyedL (strL [119, 111, 114, 100] [48, 49, 50, 51, 52, 53, 54, 55, 56, 57, 97, 98, 99, 100, 101, 102] 1) [110, 97, 109, 101]).map B) (.tail _ (.tail _ (.head _))) lenP (by simp))) ?_
  refine tk_gqe (.bool true) rfl rfl rfl (y_agNe rfl rfl Tryd.underlying22 Tryd.underlying5 (by kernel_rfl) (by kernel_rfl) ⟨by simp, by simp⟩) (bool_t num_ne) ?_
  refine tk_q rfl rfl rfl (y_pick1 rfl rfl) ?_
  refine tk_q rfl rfl rfl (y_move rfl) ?_
  refine tk_gq rfl rfl rfl (y_fldN (o := 0) 64 rfl (by kernel_rfl)) ?_
  refine tk_gq rfl rfl rfl (y_loadA (vs := (keyedL (strL [119, 111, 114, 100] [48, 49, 50, 51, 52, 53, 54, 55, 56, 57, 97, 98, 99, 100, 101, 102] 1) [110, 97, 109, 101]).map B) 32 rfl (by kernel_rfl) lenP (hseg (pre := (keyedL (strL [119, 111, 114, 100] [48, 49, 50, 51, 52, 53, 54, 55, 56, 57, 97, 98, 99, 100, 101, 102] 1) [104, 105, 100, 101]).map B ++ ((keyedL (strL [119, 111, 114, 100] [48, 49, 50, 51, 52, 53, 54, 55, 56, 57, 97, 98, 99, 100, 101, 102] 1) [109, 97, 114, 107]).map B)) (post := ([] : List Value)) (.tail _ (.tail _ (.head _))) lenP (by simp))) ?_
  refine tk_gq rfl rfl rfl (y_build (v := .agg ((List.replicate 32 0 : List UInt8).map B).toArray) (vs := []) rfl (fun _ => by kernel_rfl)) ?_
  refine tk_gqe (.bool true) rfl rfl rfl (y_agNe rfl rfl Tryd.underlying22 Tryd.underlying5 (by kernel_rfl) (by kernel_rfl) ⟨by simp, by simp⟩) (bool_t num_n0) ?_
  refine tk_q rfl rfl rfl (y_pick1 rfl rfl) ?_
  refine tk_q rfl rfl rfl (y_assign rfl) ?_
  refine tk_nil ?_
  refine tk_then ?_
  refine tk_retc ?_
  exact tk_ret (()) (trivial) (.inl rfl) (r1 rfl rfl) (List.nil_sublist _)
end Go.Proofs.YtfofkjajlfphjaaDoor

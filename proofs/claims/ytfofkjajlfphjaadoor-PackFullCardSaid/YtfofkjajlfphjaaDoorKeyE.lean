/- key: the walks over Make's inner function, Make. -/
import Derived.Test.YtfofkjajlfphjaaDoorKeyD
set_option linter.unusedSimpArgs false
set_option linter.unusedVariables false
namespace Go.Proofs.YtfofkjajlfphjaaDoor
open Go Go.RowKit
set_option maxRecDepth 100000
attribute [local irreducible] sumL keyedL strL
theorem makef_spec {rb : Nat} {k nm : List UInt8} {w : World} (hr : Ro (Fs []) w (rdB (.slice (some ⟨rb, 0, none⟩) 32 32) k)) (hk : k.length = 32) (hnm : nm.length < 1099511627776) (hg : Ro (Fs []) w glob) :
    Spec Tryd.prog 57 [Str nm, .pointer (some ⟨rb, 0, none⟩)] w [] (fun _ : Unit => True) (fun _ => Ag (keyedL k nm)) (fun _ => []) := by
  refine spec_of (n := 9) Tryd.func57 rfl rfl trivial trivial rfl ?_
  refine tk_seq ?_
  refine tk_region ?_
  refine tk_act rfl ?_; refine a_allocL (cs := (List.replicate 32 0).map B) (by kernel_rfl) rfl fun b3 => ?_
  refine tk_nil ?_
  refine tk_then ?_
  refine tk_seq ?_
  refine tk_region ?_
  refine tk_q rfl rfl rfl (y_cutA (m := 32) (sz := 1) rfl (by kernel_rfl)) ?_
  refine tk_q rfl rfl rfl (y_move rfl) ?_
  refine tk_act rfl ?_; refine a_s2bO (l := nm) rfl rfl rfl rfl rfl (by simp only [maxLen]; first | omega | (simp; done) | (simp; omega)) fun v6 => ?_
  refine tk_own1 (.head _) fun hfv6 => ?_
  refine tk_act rfl ?_; refine a_slitN (vs := [v6]) rfl (List.forall_mem_cons.2 ⟨(RdS.one hfv6.choose_spec), (fun _ h => nomatch h)⟩) (EL45) rfl rfl (by decide) fun b7 => ?_
  refine tk_act rfl ?_; refine a_callv [] _ rfl (by kernel_rfl) rfl (fun w' hw' => keyed_spec (k := k) (ps := [(v6, nm)]) (L := nm) (Ro.call (H0 := []) hr hw') (Ro.cel (vs := [v6]) hw' (.head _) (by first | rfl | simp) rfl (by decide)) (List.forall_mem_cons.2 ⟨(Ro.own (H0 := []) hw' (.tail _ (.head _))), (fun _ h => nomatch h)⟩) (by simp) ⟨lenP, lenP, lenP⟩ (hg.call hw')) rfl fun _ _ => ?_
  refine tk_act rfl ?_; refine a_storeW (H1 := [_, _]) (vs := (keyedL k nm).map B) 32 rfl rfl (by kernel_rfl) rfl ⟨lenP, lenP⟩ oneB ?_
  refine tk_nil ?_
  refine tk_then ?_
  refine tk_retc ?_
  exact tk_ret (()) (trivial) (.inl rfl) (rc (vs := (keyedL k nm).map B) rfl rfl (by simp; kernel_rfl) (hcw (.tail _ (.tail _ (.head _))))) (List.nil_sublist _)
theorem make_spec {kv sv : Value} {k s : List UInt8} {n : Nat} {w : World} (hk : Ro (Fs []) w (rdB kv k)) (hs : Ro (Fs []) w (rdB sv s)) (hk1 : 1 ≤ k.length ∧ k.length < 1099511627776) (hs16 : s.length = 16) (hn : n ≤ 100000) (hg : Ro (Fs []) w glob) :
    Spec Tryd.prog 26 [kv, sv, I (n : Int)] w [] (fun _ : Unit => True) (fun _ => .tuple #[.agg ((keyedL (strL k s n) [104, 105, 100, 101]).map B ++ ((keyedL (strL k s n) [109, 97, 114, 107]).map B ++ (keyedL (strL k s n) [110, 97, 109, 101]).map B)).toArray, I 0]) (fun _ => []) := by
  refine spec_of (n := 40) Tryd.func26 rfl rfl trivial trivial rfl ?_
  refine tk_seq ?_
  refine tk_region ?_
  refine tk_act rfl ?_; refine a_allocL (cs := (List.replicate 32 0).map B ++ ((List.replicate 32 0).map B ++ ((List.replicate 32 0).map B))) (by kernel_rfl) rfl fun b6 => ?_
  refine tk_q rfl rfl rfl (y_assign rfl) ?_
  refine tk_nil ?_
  refine tk_then ?_
  refine tk_seq ?_
  refine tk_seq ?_
  refine tk_region ?_
  refine tk_q rfl rfl rfl (y_move rfl) ?_
  refine tk_q rfl rfl rfl (y_lenRN (n' := k.length) rfl hk.1 rfl (by first | rfl | (rw [List.length_map]; omega) | simp)) ?_
  refine tk_qe (.bool false) rfl rfl rfl (y_eql rfl rfl) (bool_f (by omega)) ?_
  refine tk_q rfl rfl rfl (y_move rfl) ?_
  refine tk_gq rfl rfl rfl (y_move rfl) ?_
  refine tk_gq rfl rfl rfl (y_lenRN (n' := s.length) rfl hs.1 rfl (by first | rfl | (rw [List.length_map]; omega) | simp)) ?_
  refine tk_gqe (.bool false) rfl rfl rfl (y_neq rfl rfl) (bool_f (by omega)) ?_
  refine tk_q rfl rfl rfl (y_pick0 rfl rfl) ?_
  refine tk_q rfl rfl rfl (y_move rfl) ?_
  refine tk_gq rfl rfl rfl (y_move rfl) ?_
  refine tk_gqe (.bool false) rfl rfl rfl (y_lss rfl rfl) (bool_f (by omega)) ?_
  refine tk_q rfl rfl rfl (y_pick0 rfl rfl) ?_
  refine tk_q rfl rfl rfl (y_move rfl) ?_
  refine tk_gq rfl rfl rfl (y_move rfl) ?_
  refine tk_gqe (.bool false) rfl rfl rfl (y_gtr rfl rfl) (bool_f (by omega)) ?_
  refine tk_q rfl rfl rfl (y_pick0 rfl rfl) ?_
  refine tk_nil ?_
  refine tk_then ?_
  refine tk_cond0 rfl ?_
  refine tk_skip ?_
  refine tk_then ?_
  refine tk_seq ?_
  refine tk_region ?_
  refine tk_q rfl rfl rfl (y_move rfl) ?_
  refine tk_q rfl rfl rfl (y_move rfl) ?_
  refine tk_q rfl rfl rfl (y_move rfl) ?_
  refine tk_act rfl ?_; refine a_callv [] _ rfl (by kernel_rfl) rfl (fun w' hw' => stretch_spec (k := k) (s := s) (n := n) (Ro.call (H0 := []) hk hw') (Ro.call (H0 := []) hs hw') lenP ⟨lenP, lenP⟩ (hg.call hw')) rfl fun _ _ => ?_
  refine tk_act rfl ?_; refine a_allocL (cs := (List.replicate 32 0).map B) (by kernel_rfl) rfl fun b8 => ?_
  refine tk_act rfl ?_; refine a_storeW (H1 := []) (vs := (strL k s n).map B) 32 rfl rfl (by kernel_rfl) rfl ⟨lenP, lenP⟩ oneB ?_
  refine tk_nil ?_
  refine tk_then ?_
  refine tk_seq ?_
  refine tk_region ?_
  refine tk_q rfl rfl rfl (y_makeFunc (cs := [.pointer (some ⟨b8, 0, none⟩)]) rfl) ?_
  refine tk_q rfl rfl rfl (y_assign rfl) ?_
  refine tk_nil ?_
  refine tk_then ?_
  refine tk_seq ?_
  refine tk_region ?_
  refine tk_q rfl rfl rfl (y_move rfl) ?_
  refine tk_act rfl ?_; refine a_callc [] _ rfl rfl (by kernel_rfl) rfl (fun w' hw' => makef_spec (rb := b8) (k := strL k s n) (nm := [104, 105, 100, 101]) (Ro.cel (H0 := []) (b := b8) (o := 0) (m := 32) (cp := 32) (vs := (strL k s n).map B) hw' (.head _) (dsW) (by first | rfl | (simp; done) | (simp; omega)) (by first | omega | (simp; done) | (simp; omega))) lenP (by first | decide | omega) (hg.call hw')) rfl fun _ _ => ?_
  refine tk_q rfl rfl rfl (y_move rfl) ?_
  refine tk_act rfl ?_; refine a_callc [] _ rfl rfl (by kernel_rfl) rfl (fun w' hw' => makef_spec (rb := b8) (k := strL k s n) (nm := [109, 97, 114, 107]) (Ro.cel (H0 := []) (b := b8) (o := 0) (m := 32) (cp := 32) (vs := (strL k s n).map B) hw' (.head _) (dsW) (by first | rfl | (simp; done) | (simp; omega)) (by first | omega | (simp; done) | (simp; omega))) lenP (by first | decide | omega) (hg.call hw')) rfl fun _ _ => ?_
  refine tk_q rfl rfl rfl (y_build (v := .agg ((keyedL (strL k s n) [104, 105, 100, 101]).map B ++ ((keyedL (strL k s n) [109, 97, 114, 107]).map B)).toArray) (vs := [(0, .agg ((keyedL (strL k s n) [104, 105, 100, 101]).map B).toArray), (1, .agg ((keyedL (strL k s n) [109, 97, 114, 107]).map B).toArray)]) rfl (run_build (zs := (List.replicate 32 0).map B ++ ((List.replicate 32 0).map B)) (pl := [(0, 32), (32, 32)]) Tryd.underlying36 (fun _ => by kernel_rfl) (fun _ => by kernel_rfl) (fill2 (a := (keyedL (strL k s n) [104, 105, 100, 101]).map B) (b := (keyedL (strL k s n) [109, 97, 114, 107]).map B) lenP lenP (by simp) rfl rfl))) ?_
  refine tk_q rfl rfl rfl (y_move rfl) ?_
  refine tk_act rfl ?_; refine a_callc [] _ rfl rfl (by kernel_rfl) rfl (fun w' hw' => makef_spec (rb := b8) (k := strL k s n) (nm := [110, 97, 109, 101]) (Ro.cel (H0 := []) (b := b8) (o := 0) (m := 32) (cp := 32) (vs := (strL k s n).map B) hw' (.head _) (dsW) (by first | rfl | (simp; done) | (simp; omega)) (by first | omega | (simp; done) | (simp; omega))) lenP (by first | decide | omega) (hg.call hw')) rfl fun _ _ => ?_
  refine tk_q rfl rfl rfl (y_build (v := .agg ((keyedL (strL k s n) [104, 105, 100, 101]).map B ++ ((keyedL (strL k s n) [109, 97, 114, 107]).map B ++ ((keyedL (strL k s n) [110, 97, 109, 101]).map B))).toArray) (vs := [(0, .agg ((keyedL (strL k s n) [104, 105, 100, 101]).map B ++ ((keyedL (strL k s n) [109, 97, 114, 107]).map B)).toArray), (1, .agg ((keyedL (strL k s n) [110, 97, 109, 101]).map B).toArray)]) rfl (run_build (zs := (List.replicate 32 0).map B ++ ((List.replicate 32 0).map B ++ ((List.replicate 32 0).map B))) (pl := [(0, 64), (64, 32)]) Tryd.underlying49 (fun _ => by kernel_rfl) (fun _ => by kernel_rfl) (fill2 (a := (keyedL (strL k s n) [104, 105, 100, 101]).map B ++ ((keyedL (strL k s n) [109, 97, 114, 107]).map B)) (b := (keyedL (strL k s n) [110, 97, 109, 101]).map B) lenP lenP (by simp) rfl (by simp)))) ?_
  refine tk_act rfl ?_; refine a_storeW (H1 := [_]) (vs := (keyedL (strL k s n) [104, 105, 100, 101]).map B ++ ((keyedL (strL k s n) [109, 97, 114, 107]).map B ++ ((keyedL (strL k s n) [110, 97, 109, 101]).map B))) 96 rfl rfl (by kernel_rfl) rfl ⟨lenP, lenP⟩ (List.forall_mem_append.2 ⟨oneB, (List.forall_mem_append.2 ⟨oneB, oneB⟩)⟩) ?_
  refine tk_q rfl rfl rfl (y_assign rfl) ?_
  refine tk_nil ?_
  refine tk_then ?_
  refine tk_retc ?_
  exact tk_ret (()) (trivial) (.inl rfl) (rct (vs := (keyedL (strL k s n) [104, 105, 100, 101]).map B ++ ((keyedL (strL k s n) [109, 97, 114, 107]).map B ++ ((keyedL (strL k s n) [110, 97, 109, 101]).map B))) rfl rfl (by simp; kernel_rfl) (hcw (.tail _ (.head _))) rfl) (List.nil_sublist _)
end Go.Proofs.YtfofkjajlfphjaaDoor

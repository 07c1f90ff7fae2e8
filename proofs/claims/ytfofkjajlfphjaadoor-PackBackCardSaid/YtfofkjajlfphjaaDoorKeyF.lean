/- key: the walks over salt and from. -/
import Derived.Test.YtfofkjajlfphjaaDoorKeyE
set_option linter.unusedSimpArgs false
set_option linter.unusedVariables false
namespace Go.Proofs.YtfofkjajlfphjaaDoor
open Go Go.RowKit
set_option maxRecDepth 100000
attribute [local irreducible] sumL keyedL strL
theorem salt_spec {w : World} : Spec Tryd.prog 27 [] w [] (fun _ : Nat => True) (fun b => .slice (some ⟨b, 0, none⟩) 16 16) (fun b => [cel b [B 48, B 49, B 50, B 51, B 52, B 53, B 54, B 55, B 56, B 57, B 97, B 98, B 99, B 100, B 101, B 102] 5]) := by
  refine spec_of (n := 3) Tryd.func27 rfl rfl trivial trivial rfl ?_; refine s_r ?_; refine s_q rfl (y_assign rfl) ?_; refine s_n ?_; refine s_r ?_; refine tk_act rfl ?_; refine a_slitN (vs := [B 48, B 49, B 50, B 51, B 52, B 53, B 54, B 55, B 56, B 57, B 97, B 98, B 99, B 100, B 101, B 102]) rfl (List.forall_mem_cons.2 ⟨rfl, (List.forall_mem_cons.2 ⟨rfl, (List.forall_mem_cons.2 ⟨rfl, (List.forall_mem_cons.2 ⟨rfl, (List.forall_mem_cons.2 ⟨rfl, (List.forall_mem_cons.2 ⟨rfl, (List.forall_mem_cons.2 ⟨rfl, (List.forall_mem_cons.2 ⟨rfl, (List.forall_mem_cons.2 ⟨rfl, (List.forall_mem_cons.2 ⟨rfl, (List.forall_mem_cons.2 ⟨rfl, (List.forall_mem_cons.2 ⟨rfl, (List.forall_mem_cons.2 ⟨rfl, (List.forall_mem_cons.2 ⟨rfl, (List.forall_mem_cons.2 ⟨rfl, (List.forall_mem_cons.2 ⟨rfl, (fun _ h => nomatch h)⟩)⟩)⟩)⟩)⟩)⟩)⟩)⟩)⟩)⟩)⟩)⟩)⟩)⟩)⟩)⟩) (EL26) rfl rfl (by decide) fun b1 => ?_
  refine tk_act rfl ?_; refine a_convX (H1 := []) rfl Tryd.underlying26 Tryd.underlying5 rfl rfl ?_; refine s_q rfl (y_assign rfl) ?_; refine s_n ?_; refine tk_retc ?_
  exact tk_ret (b1) (trivial) (.inl rfl) (r1 rfl rfl) (List.Sublist.refl _)
theorem from_spec {hk mk nk : List UInt8} {w : World} (h3 : hk.length = 32 ∧ mk.length = 32 ∧ nk.length = 32) :
    Spec Tryd.prog 28 [.agg (hk.map B ++ (mk.map B ++ nk.map B)).toArray] w [] (fun _ : Unit => True) (fun _ => .agg (hk.map B ++ (mk.map B ++ nk.map B)).toArray) (fun _ => []) := by
  refine spec_of (n := 13) Tryd.func28 rfl rfl trivial trivial rfl ?_
  obtain ⟨hk32, mk32, nk32⟩ := h3
  refine s_r ?_; refine tk_act rfl ?_; refine a_boxL (cs := hk.map B ++ (mk.map B ++ (nk.map B))) rfl rfl fun b1 => ?_; refine tk_act rfl ?_; refine a_allocL (cs := (List.replicate 32 0).map B ++ ((List.replicate 32 0).map B ++ ((List.replicate 32 0).map B))) (by kernel_rfl) rfl fun b2 => ?_; refine s_n ?_; refine s_r ?_; refine s_q rfl (y_fld0 (o := 0) rfl (by kernel_rfl)) ?_; refine s_q rfl (y_fld0 (o := 0) rfl (by kernel_rfl)) ?_
  refine s_q rfl (y_loadA (vs := hk.map B) 32 rfl (by kernel_rfl) lenP (hseg (pre := ([] : List Value)) (post := mk.map B ++ (nk.map B)) (.tail _ (.head _)) lenP (by simp))) ?_; refine s_q rfl (y_fld0 (o := 0) rfl (by kernel_rfl)) ?_; refine s_q rfl (y_fldN (o := 0) 32 rfl (by kernel_rfl)) ?_; refine s_q rfl (y_loadA (vs := mk.map B) 32 rfl (by kernel_rfl) lenP (hseg (pre := hk.map B) (post := nk.map B) (.tail _ (.head _)) lenP (by simp))) ?_
  refine s_q rfl (y_build (v := .agg (hk.map B ++ (mk.map B)).toArray) (vs := [(0, .agg (hk.map B).toArray), (1, .agg (mk.map B).toArray)]) rfl (run_build (zs := (List.replicate 32 0).map B ++ ((List.replicate 32 0).map B)) (pl := [(0, 32), (32, 32)]) Tryd.underlying24 (fun _ => by kernel_rfl) (fun _ => by kernel_rfl) (fill2 (a := hk.map B) (b := mk.map B) lenP lenP (by simp) rfl rfl))) ?_; refine s_q rfl (y_fldN (o := 0) 64 rfl (by kernel_rfl)) ?_
  refine s_q rfl (y_loadA (vs := nk.map B) 32 rfl (by kernel_rfl) lenP (hseg (pre := hk.map B ++ (mk.map B)) (post := ([] : List Value)) (.tail _ (.head _)) lenP (by simp))) ?_; refine s_q rfl (y_build (v := .agg (hk.map B ++ (mk.map B ++ (nk.map B))).toArray) (vs := [(0, .agg (hk.map B ++ (mk.map B)).toArray), (1, .agg (nk.map B).toArray)]) rfl (run_build (zs := (List.replicate 32 0).map B ++ ((List.replicate 32 0).map B ++ ((List.replicate 32 0).map B))) (pl := [(0, 64), (64, 32)]) Tryd.underlying54 (fun _ => by kernel_rfl) (fun _ => by kernel_rfl) (fill2 (a := hk.map B ++ (mk.map B)) (b := nk.map B) lenP lenP (by simp) rfl (by simp)))) ?_
  refine tk_act rfl ?_; refine a_storeW (H1 := []) (vs := hk.map B ++ (mk.map B ++ (nk.map B))) 96 rfl rfl (by kernel_rfl) rfl ⟨lenP, lenP⟩ (List.forall_mem_append.2 ⟨oneB, (List.forall_mem_append.2 ⟨oneB, oneB⟩)⟩) ?_; refine s_n ?_; refine tk_retc ?_
  exact tk_ret (()) (trivial) (.inl rfl) (rc (vs := hk.map B ++ (mk.map B ++ (nk.map B))) rfl rfl (by simp [hk32, mk32, nk32]; kernel_rfl) (hcw (.head _))) (List.nil_sublist _)
end Go.Proofs.YtfofkjajlfphjaaDoor

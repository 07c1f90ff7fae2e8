/- sum's reference: the walks over Of and Keyed. -/
import Derived.Test.YtfofkjajlfphjaaDoorSumC
set_option linter.unusedSimpArgs false
set_option linter.unusedVariables false
namespace Go.Proofs.YtfofkjajlfphjaaDoor
open Go Go.RowKit
set_option maxRecDepth 100000
attribute [local irreducible] sumL outB keyedL hmKey xorPad takeZ blockF len8 zc pad
theorem rof_spec {l : List UInt8} {w : World} (hb : l.length < 70368744177664) : Spec Tryd.prog 55 [Str l] w [] (fun _ : Unit => True) (fun _ => Str (sumL l)) (fun _ => []) := by
  refine spec_of (n := 77) Tryd.func55 rfl rfl trivial trivial rfl ?_
  obtain ⟨np, hnp, hnp0⟩ := pad_len l
  have hz := zc_def l.length
  have hpl : (pad l).length = l.length + 1 + zc l.length + 8 := by simp [pad]; omega
  refine tk_seq ?_
  refine tk_region ?_
  refine tk_q rfl rfl rfl (y_assign rfl) ?_
  refine tk_nil ?_
  refine tk_then ?_
  refine tk_seq ?_
  refine tk_region ?_
  refine tk_q rfl rfl rfl (y_move rfl) ?_
  refine tk_act rfl ?_; refine a_s2bO (l := l) rfl rfl rfl rfl rfl (by simp only [maxLen]; first | omega | (simp; done) | (simp; omega)) fun v10 => ?_
  refine tk_own1 (.head _) fun hfv10 => ?_
  refine tk_act rfl ?_; refine a_slitN (vs := [B 128]) rfl (List.forall_mem_cons.2 ⟨rfl, (fun _ h => nomatch h)⟩) (EL26) rfl rfl (by decide) fun b11 => ?_
  refine tk_act rfl ?_; refine a_appM (H1 := [_]) (f := B) (l := l) (m := [128]) rfl rfl EL26 rfl rfl (fun w hw => cel_rdE (o := 0) (m := 1) (cp := 1) (vs := [128].map B) (hw.mem (.head _)) (rfl) (by first | rfl | (simp; done) | (simp; omega)) (by first | omega | (simp; done) | (simp; omega))) (fun _ => rfl) ⟨lenP, lenP⟩ fun v12 => ?_
  refine tk_own1 (.tail _ (.head _)) fun hfv12 => ?_
  refine tk_q rfl rfl rfl (y_assign rfl) ?_
  refine tk_nil ?_
  refine tk_then ?_
  refine tk_seq ?_
  refine tk_block ?_
  refine tk_H [cel b11 ([B 128]) 5, own v12 ((l ++ [128] ++ List.replicate 0 0).length) ((l ++ [128] ++ List.replicate 0 0).map B) 5 1] (congrArg (fun z_ => [cel b11 ([B 128]) 5, z_]) (show own v12 ((l ++ [128]).length) ((l ++ [128]).map B) 5 1 = own v12 ((l ++ [128] ++ List.replicate 0 0).length) ((l ++ [128] ++ List.replicate 0 0).map B) 5 1 from ownM_cast (by simp))) ?_
  refine tk_loop (X := Nat × Value) (fun (j, vb) => j ≤ zc l.length) (fun (j, vb) => [(0, Str l), (2, Str []), (3, vb)]) (fun (j, vb) => [cel b11 ([B 128]) 5, own vb ((l ++ [128] ++ List.replicate j 0).length) ((l ++ [128] ++ List.replicate j 0).map B) 5 1]) (fun (j, vb) => zc l.length - j) ((0, v12)) (Nat.zero_le _) (by repeat (first | exact trivial | refine ⟨rfl, ?_⟩)) ((List.Sublist.refl _)) ?_
  rintro ⟨j, vb⟩ hI
  try dsimp only at hI ⊢
  have hlen : (l ++ [128] ++ List.replicate j 0).length = l.length + 1 + j := by simp; omega
  refine tk_own1 (.tail _ (.head _)) fun hfb => ?_
  refine tk_seq ?_
  refine tk_seq ?_
  refine tk_region ?_
  refine tk_q rfl rfl rfl (y_move rfl) ?_
  refine tk_q rfl rfl rfl (y_lenRN (n' := (l ++ [128] ++ List.replicate j 0).length) rfl hfb.choose_spec rfl (by first | rfl | (rw [List.length_map]; omega) | simp)) ?_
  refine tk_q rfl rfl rfl (y_remN (a := (l ++ [128] ++ List.replicate j 0).length) (b := 64) rfl rfl (by omega)) ?_
  refine tk_q rfl rfl rfl (y_neq rfl rfl) ?_
  refine tk_nil ?_
  refine tk_then ?_
  refine tk_condP rfl (fun ht16 => ?_) (fun ht16 => ?_)
  · skip
    refine tk_skip ?_
    refine tk_then ?_
    refine tk_block ?_
    refine tk_region ?_
    refine tk_q rfl rfl rfl (y_move rfl) ?_
    refine tk_act rfl ?_; refine a_slitN (vs := [B 0]) rfl (List.forall_mem_cons.2 ⟨rfl, (fun _ h => nomatch h)⟩) (EL26) rfl rfl (by decide) fun b18 => ?_
    refine tk_act rfl ?_; refine a_appM (H1 := [_, _]) (f := B) (l := l ++ [128] ++ List.replicate j 0) (m := [0]) rfl rfl EL26 rfl rfl (fun w hw => cel_rdE (o := 0) (m := 1) (cp := 1) (vs := [0].map B) (hw.mem (.head _)) (rfl) (by first | rfl | (simp; done) | (simp; omega)) (by first | omega | (simp; done) | (simp; omega))) (fun _ => rfl) ⟨lenP, lenP⟩ fun v19 => ?_
    refine tk_own1 (.tail _ (.tail _ (.head _))) fun hfv19 => ?_
    refine tk_q rfl rfl rfl (y_assign rfl) ?_
    refine tk_nil ?_
    refine tk_in_normal ?_
    refine tk_H [cel b18 ([B 0]) 5, cel b11 ([B 128]) 5, own v19 ((l ++ [128] ++ List.replicate (j + 1) 0).length) ((l ++ [128] ++ List.replicate (j + 1) 0).map B) 5 1] (congrArg (fun z_ => [cel b18 ([B 0]) 5, cel b11 ([B 128]) 5, z_]) (show own v19 ((l ++ [128] ++ List.replicate j 0 ++ [0]).length) ((l ++ [128] ++ List.replicate j 0 ++ [0]).map B) 5 1 = own v19 ((l ++ [128] ++ List.replicate (j + 1) 0).length) ((l ++ [128] ++ List.replicate (j + 1) 0).map B) 5 1 from ownM_cast (by rw [List.replicate_succ', ← List.append_assoc]))) ?_
    exact tk_again ((j + 1, v19)) (by have h0 := ht16; dsimp only; omega) (by have h0 := ht16; dsimp only; omega) (by repeat (first | exact trivial | refine ⟨rfl, ?_⟩)) (.cons _ (List.Sublist.refl _))
  · skip
    refine tk_exit ?_
    refine tk_then_exit ?_
    refine tk_then_exit ?_
    refine tk_in_hit ?_
    refine tk_then ?_
    refine tk_seq ?_
    refine tk_region ?_
    refine tk_q rfl rfl rfl (y_move rfl) ?_
    refine tk_q rfl rfl rfl (y_lenStr (l := l) rfl rfl) ?_
    refine tk_q rfl rfl rfl (y_convi64 (m := l.length) rfl rfl rfl (wrap_u64 (by omega))) ?_
    refine tk_q rfl rfl rfl (y_mulU (a := l.length) (b := 8) rfl rfl (by omega)) ?_
    refine tk_q rfl rfl rfl (y_assign rfl) ?_
    refine tk_nil ?_
    refine tk_then ?_
    refine tk_seq ?_
    refine tk_seq ?_
    refine tk_region ?_
    refine tk_q rfl rfl rfl (y_assign rfl) ?_
    refine tk_nil ?_
    refine tk_then ?_
    refine tk_block ?_
    have hj : j = zc l.length := by omega
    refine tk_H [cel b11 ([B 128]) 5, own vb ((l ++ [128] ++ List.replicate (zc l.length) 0 ++ len8 l.length 0).length) ((l ++ [128] ++ List.replicate (zc l.length) 0 ++ len8 l.length 0).map B) 5 1] (congrArg (fun z_ => [cel b11 ([B 128]) 5, z_]) (show own vb ((l ++ [128] ++ List.replicate j 0).length) ((l ++ [128] ++ List.replicate j 0).map B) 5 1 = own vb ((l ++ [128] ++ List.replicate (zc l.length) 0 ++ len8 l.length 0).length) ((l ++ [128] ++ List.replicate (zc l.length) 0 ++ len8 l.length 0).map B) 5 1 from ownM_cast (by rw [hj, len8_0, List.append_nil]))) ?_
    refine tk_loop (X := Nat × Value) (fun (j, vb) => j ≤ 8) (fun (j, vb) => [(2, Str []), (3, vb), (4, .int .u64 ((l.length * 8 : Nat) : Int)), (5, I (56 - 8 * (j : Int)))]) (fun (j, vb) => [cel b11 ([B 128]) 5, own vb ((l ++ [128] ++ List.replicate (zc l.length) 0 ++ len8 l.length j).length) ((l ++ [128] ++ List.replicate (zc l.length) 0 ++ len8 l.length j).map B) 5 1]) (fun (j, vb) => 8 - j) ((0, vb)) (Nat.zero_le _) (by repeat (first | exact trivial | refine ⟨rfl, ?_⟩)) ((List.Sublist.refl _)) ?_
    rintro ⟨j, vb⟩ hI
    try dsimp only at hI ⊢
    have hlen : (l ++ [128] ++ List.replicate (zc l.length) 0 ++ len8 l.length j).length = l.length + 1 + zc l.length + j := by simp; omega
    refine tk_own1 (.tail _ (.head _)) fun hfb => ?_
    refine tk_seq ?_
    refine tk_seq ?_
    refine tk_region ?_
    refine tk_q rfl rfl rfl (y_move rfl) ?_
    refine tk_q rfl rfl rfl (y_geq rfl rfl) ?_
    refine tk_nil ?_
    refine tk_then ?_
    refine tk_condP rfl (fun ht25 => ?_) (fun ht25 => ?_)
    · skip
      refine tk_skip ?_
      refine tk_then ?_
      refine tk_seq ?_
      refine tk_block ?_
      refine tk_region ?_
      refine tk_re 5 (I (56 - 8 * (j : Int))) (I ((56 - 8 * j : Nat) : Int)) rfl (congrArg I (by omega)) ?_
      refine tk_q rfl rfl rfl (y_move rfl) ?_
      refine tk_q rfl rfl rfl (y_move rfl) ?_
      refine tk_q rfl rfl rfl (y_move rfl) ?_
      refine tk_q rfl rfl rfl (y_shrN (a := l.length * 8) (m := 56 - 8 * j) rfl rfl (by simp [IntKind.bits]; omega)) ?_
      refine tk_q rfl rfl rfl (y_convi8 (m := (l.length * 8) / 2 ^ (56 - 8 * j)) rfl rfl rfl) ?_
      refine tk_act rfl ?_; refine a_slitN (vs := [B (UInt8.ofNat ((l.length * 8) / 2 ^ (56 - 8 * j)))]) rfl (List.forall_mem_cons.2 ⟨rfl, (fun _ h => nomatch h)⟩) (EL26) rfl rfl (by decide) fun b33 => ?_
      refine tk_act rfl ?_; refine a_appM (H1 := [_, _]) (f := B) (l := l ++ [128] ++ List.replicate (zc l.length) 0 ++ len8 l.length j) (m := [UInt8.ofNat ((l.length * 8) / 2 ^ (56 - 8 * j))]) rfl rfl EL26 rfl rfl (fun w hw => cel_rdE (o := 0) (m := 1) (cp := 1) (vs := [UInt8.ofNat ((l.length * 8) / 2 ^ (56 - 8 * j))].map B) (hw.mem (.head _)) (rfl) (by first | rfl | (simp; done) | (simp; omega)) (by first | omega | (simp; done) | (simp; omega))) (fun _ => rfl) ⟨lenP, lenP⟩ fun v34 => ?_
      refine tk_own1 (.tail _ (.tail _ (.head _))) fun hfv34 => ?_
      refine tk_q rfl rfl rfl (y_assign rfl) ?_
      refine tk_nil ?_
      refine tk_in_normal ?_
      refine tk_then ?_
      refine tk_region ?_
      refine tk_re 5 (I ((56 - 8 * j : Nat) : Int)) (I (56 - 8 * (j : Int))) rfl (congrArg I (by omega)) ?_
      refine tk_q rfl rfl rfl (y_move rfl) ?_
      refine tk_q rfl rfl rfl (y_subI rfl rfl (by omega)) ?_
      refine tk_q rfl rfl rfl (y_assign rfl) ?_
      refine tk_nil ?_
      refine tk_re 5 (I ((56 - 8 * (j : Int)) - (8 : Int))) (I (56 - 8 * ((j + 1 : Nat) : Int))) rfl (congrArg I (by omega)) ?_
      refine tk_H [cel b33 ([B (UInt8.ofNat ((l.length * 8) / 2 ^ (56 - 8 * j)))]) 5, cel b11 ([B 128]) 5, own v34 ((l ++ [128] ++ List.replicate (zc l.length) 0 ++ len8 l.length (j + 1)).length) ((l ++ [128] ++ List.replicate (zc l.length) 0 ++ len8 l.length (j + 1)).map B) 5 1] (congrArg (fun z_ => [cel b33 ([B (UInt8.ofNat ((l.length * 8) / 2 ^ (56 - 8 * j)))]) 5, cel b11 ([B 128]) 5, z_]) (show own v34 ((l ++ [128] ++ List.replicate (zc l.length) 0 ++ len8 l.length j ++ [UInt8.ofNat ((l.length * 8) / 2 ^ (56 - 8 * j))]).length) ((l ++ [128] ++ List.replicate (zc l.length) 0 ++ len8 l.length j ++ [UInt8.ofNat ((l.length * 8) / 2 ^ (56 - 8 * j))]).map B) 5 1 = own v34 ((l ++ [128] ++ List.replicate (zc l.length) 0 ++ len8 l.length (j + 1)).length) ((l ++ [128] ++ List.replicate (zc l.length) 0 ++ len8 l.length (j + 1)).map B) 5 1 from ownM_cast (by rw [← len8_snoc, ← List.append_assoc]; rfl))) ?_
      exact tk_again ((j + 1, v34)) (by dsimp only; omega) (by dsimp only; omega) (by repeat (first | exact trivial | refine ⟨rfl, ?_⟩)) (.cons _ (List.Sublist.refl _))
    · skip
      refine tk_H [cel b11 ([B 128]) 5, own vb ((pad l).length) ((pad l).map B) 5 1] (congrArg (fun z_ => [cel b11 ([B 128]) 5, z_]) (show own vb ((l ++ [128] ++ List.replicate (zc l.length) 0 ++ len8 l.length j).length) ((l ++ [128] ++ List.replicate (zc l.length) 0 ++ len8 l.length j).map B) 5 1 = own vb ((pad l).length) ((pad l).map B) 5 1 from ownM_cast (by rw [show j = 8 by omega]; exact pad_def))) ?_
      refine tk_own1 (.tail _ (.head _)) fun hfb => ?_
      refine tk_exit ?_
      refine tk_then_exit ?_
      refine tk_then_exit ?_
      refine tk_in_hit ?_
      refine tk_then ?_
      refine tk_seq ?_
      refine tk_region ?_
      refine tk_act rfl ?_; refine a_slitN (vs := [W4 1779033703, W4 3144134277, W4 1013904242, W4 2773480762, W4 1359893119, W4 2600822924, W4 528734635, W4 1541459225]) rfl (List.forall_mem_cons.2 ⟨rfl, (List.forall_mem_cons.2 ⟨rfl, (List.forall_mem_cons.2 ⟨rfl, (List.forall_mem_cons.2 ⟨rfl, (List.forall_mem_cons.2 ⟨rfl, (List.forall_mem_cons.2 ⟨rfl, (List.forall_mem_cons.2 ⟨rfl, (List.forall_mem_cons.2 ⟨rfl, (fun _ h => nomatch h)⟩)⟩)⟩)⟩)⟩)⟩)⟩)⟩) (EL162) rfl rfl (by decide) fun b35 => ?_
      refine tk_q rfl rfl rfl (y_assign rfl) ?_
      refine tk_nil ?_
      refine tk_then ?_
      refine tk_seq ?_
      refine tk_block ?_
      refine tk_H [cel b35 (beginL.map W4) 161, cel b11 ([B 128]) 5, own vb ((pad l).length) ((pad l).map B) 5 1] (congrArg (fun z => [cel b35 z 161, cel b11 ([B 128]) 5, own vb ((pad l).length) ((pad l).map B) 5 1]) (show [W4 1779033703, W4 3144134277, W4 1013904242, W4 2773480762, W4 1359893119, W4 2600822924, W4 528734635, W4 1541459225] = beginL.map W4 from rfl)) ?_
      refine tk_celM (H1 := []) (T := 161) (f := W4) (l := beginL) rfl rfl (by decide) ?_
      refine tk_H [own ((.slice (some ⟨b35, 0, none⟩) 8 8)) ((foldB beginL ((pad l).take (64 * 0))).length) ((foldB beginL ((pad l).take (64 * 0))).map W4) 161 1, cel b11 ([B 128]) 5, own vb ((pad l).length) ((pad l).map B) 5 1] (congrArg (fun z_ => [z_, cel b11 ([B 128]) 5, own vb ((pad l).length) ((pad l).map B) 5 1]) (show own ((.slice (some ⟨b35, 0, none⟩) 8 8)) beginL.length (beginL.map W4) 161 1 = own ((.slice (some ⟨b35, 0, none⟩) 8 8)) ((foldB beginL ((pad l).take (64 * 0))).length) ((foldB beginL ((pad l).take (64 * 0))).map W4) 161 1 from ownM_cast (by rw [Nat.mul_zero, List.take_zero, foldB_lt (by simp)]))) ?_
      refine tk_loop (X := Nat × Value × Value) (fun (j, vr, vp) => 64 * j ≤ (pad l).length ∧ ∀ w, RdB w vb (pad l) → RdB w vp ((pad l).drop (64 * j))) (fun (j, vr, vp) => [(2, Str []), (3, vp), (6, vr)]) (fun (j, vr, vp) => [own vr ((foldB beginL ((pad l).take (64 * j))).length) ((foldB beginL ((pad l).take (64 * j))).map W4) 161 1, cel b11 ([B 128]) 5, own vb ((pad l).length) ((pad l).map B) 5 1]) (fun (j, vr, vp) => (pad l).length - 64 * j) ((0, .slice (some ⟨b35, 0, none⟩) 8 8, vb)) (⟨Nat.zero_le _, fun w h => h⟩) (by repeat (first | exact trivial | refine ⟨rfl, ?_⟩)) ((List.Sublist.refl _)) ?_
      rintro ⟨j, vr, vp⟩ hI
      try dsimp only at hI ⊢
      have hdl : ((pad l).drop (64 * j)).length = (pad l).length - 64 * j := List.length_drop
      have hf8 : (foldB beginL ((pad l).take (64 * j))).length = 8 := foldB_len rfl j _ (by simp; omega)
      refine tk_own1 (.head _) fun hfr => ?_
      refine tk_seq ?_
      refine tk_seq ?_
      refine tk_region ?_
      refine tk_q rfl rfl rfl (y_move rfl) ?_
      refine tk_q rfl rfl rfl (y_lenRN (n' := ((pad l).drop (64 * j)).length) rfl (hI.2 _ hfb.choose_spec) rfl (by first | rfl | (rw [List.length_map]; omega) | simp)) ?_
      refine tk_q rfl rfl rfl (y_gtr rfl rfl) ?_
      refine tk_nil ?_
      refine tk_then ?_
      refine tk_condP rfl (fun ht38 => ?_) (fun ht38 => ?_)
      · skip
        refine tk_skip ?_
        refine tk_then ?_
        refine tk_block ?_
        refine tk_seq ?_
        refine tk_region ?_
        refine tk_q rfl rfl rfl (y_move rfl) ?_
        refine tk_q rfl rfl rfl (y_move rfl) ?_
        refine tk_q rfl rfl rfl (y_cutRBh (l := (pad l).drop (64 * j)) 64 rfl rfl (hI.2 _ hfb.choose_spec) (by kernel_rfl) lenP rfl) ?_
        refine tk_act rfl ?_; refine a_callv [] _ rfl (by kernel_rfl) rfl (fun w' hw' => fold_spec (R := foldB beginL ((pad l).take (64 * j))) (blk := ((pad l).drop (64 * j)).take 64) (Ro.own (H0 := []) hw' (.head _)) (Ro.cutBh (Ro.nil (hI.2 _ (own_rdS (hw'.mem (.tail _ (.tail _ (.head _))))))) (hi := 64) lenP) lenP lenP) rfl fun v42 _ => ?_
        refine tk_q rfl rfl rfl (y_assign rfl) ?_
        refine tk_nil ?_
        refine tk_then ?_
        refine tk_region ?_
        refine tk_q rfl rfl rfl (y_move rfl) ?_
        refine tk_q rfl rfl rfl (y_cutRBl (l := (pad l).drop (64 * j)) 64 rfl rfl (hI.2 _ hfb.choose_spec) (by kernel_rfl) lenP rfl) ?_
        refine tk_q rfl rfl rfl (y_assign rfl) ?_
        refine tk_nil ?_
        refine tk_in_normal ?_
        refine tk_H [own v42 ((foldB beginL ((pad l).take (64 * (j + 1)))).length) ((foldB beginL ((pad l).take (64 * (j + 1)))).map W4) 161 1, own vr ((foldB beginL ((pad l).take (64 * j))).length) ((foldB beginL ((pad l).take (64 * j))).map W4) 161 1, cel b11 ([B 128]) 5, own vb ((pad l).length) ((pad l).map B) 5 1] (congrArg (fun z_ => [z_, own vr ((foldB beginL ((pad l).take (64 * j))).length) ((foldB beginL ((pad l).take (64 * j))).map W4) 161 1, cel b11 ([B 128]) 5, own vb ((pad l).length) ((pad l).map B) 5 1]) (show own v42 ((blockF (foldB beginL ((pad l).take (64 * j))) (((pad l).drop (64 * j)).take 64)).length) ((blockF (foldB beginL ((pad l).take (64 * j))) (((pad l).drop (64 * j)).take 64)).map W4) 161 1 = own v42 ((foldB beginL ((pad l).take (64 * (j + 1)))).length) ((foldB beginL ((pad l).take (64 * (j + 1)))).map W4) 161 1 from ownM_cast (foldB_next (by have h0 := ht38; rw [List.length_drop] at h0; omega)))) ?_
        exact tk_again ((j + 1, v42, cutR vp 64 ((pad l).drop (64 * j)).length)) (⟨by have h0 := ht38; rw [List.length_drop] at h0; omega, fun w h => by have h1 := RdS.cutBl (lo := 64) (hI.2 w h) lenP; rw [List.drop_drop] at h1; exact h1⟩) (by have h0 := ht38; rw [List.length_drop] at h0; dsimp only; omega) (by repeat (first | exact trivial | refine ⟨rfl, ?_⟩)) (.cons_cons _ (.cons _ (List.Sublist.refl _)))
      · skip
        refine tk_exit ?_
        refine tk_then_exit ?_
        refine tk_then_exit ?_
        refine tk_in_hit ?_
        refine tk_then ?_
        refine tk_seq ?_
        refine tk_region ?_
        refine tk_q rfl rfl rfl (y_assign rfl) ?_
        refine tk_nil ?_
        refine tk_then ?_
        refine tk_seq ?_
        refine tk_seq ?_
        refine tk_region ?_
        refine tk_q rfl rfl rfl (y_assign rfl) ?_
        refine tk_nil ?_
        refine tk_then ?_
        refine tk_block ?_
        have hj : (pad l).take (64 * j) = pad l := by rw [List.take_of_length_le]; have h0 := ht38; rw [List.length_drop] at h0; omega
        refine tk_H [own vr ((foldB beginL (pad l)).length) ((foldB beginL (pad l)).map W4) 161 1, cel b11 ([B 128]) 5, own vb ((pad l).length) ((pad l).map B) 5 1] (congrArg (fun z_ => [z_, cel b11 ([B 128]) 5, own vb ((pad l).length) ((pad l).map B) 5 1]) (show own vr ((foldB beginL ((pad l).take (64 * j))).length) ((foldB beginL ((pad l).take (64 * j))).map W4) 161 1 = own vr ((foldB beginL (pad l)).length) ((foldB beginL (pad l)).map W4) 161 1 from ownM_cast (by rw [hj]))) ?_
        refine tk_ownM0 (f := B) 5 ?_
        refine tk_loop (X := Nat × Value) (fun (i, vo) => i ≤ 8) (fun (i, vo) => [(2, Str []), (6, vr), (7, vo), (8, I ((i : Nat) : Int))]) (fun (i, vo) => [own vo (((outB (foldB beginL (pad l))).take (4 * i)).length) (((outB (foldB beginL (pad l))).take (4 * i)).map B) 5 1, own vr ((foldB beginL (pad l)).length) ((foldB beginL (pad l)).map W4) 161 1, cel b11 ([B 128]) 5, own vb ((pad l).length) ((pad l).map B) 5 1]) (fun (i, vo) => 8 - i) ((0, .slice none 0 0)) (Nat.zero_le _) (by repeat (first | exact trivial | refine ⟨rfl, ?_⟩)) ((List.Sublist.refl _)) ?_
        rintro ⟨i, vo⟩ hI
        try dsimp only at hI ⊢
        have hf8 : (foldB beginL (pad l)).length = 8 := foldB_len rfl np _ hnp
        have hol : ((outB (foldB beginL (pad l))).take (4 * i)).length ≤ 32 := by simp; omega
        refine tk_own1 (.head _) fun hfo => ?_
        refine tk_own1 (.tail _ (.head _)) fun hfr => ?_
        refine tk_seq ?_
        refine tk_seq ?_
        refine tk_region ?_
        refine tk_q rfl rfl rfl (y_move rfl) ?_
        refine tk_q rfl rfl rfl (y_lss rfl rfl) ?_
        refine tk_nil ?_
        refine tk_then ?_
        refine tk_condP rfl (fun ht46 => ?_) (fun ht46 => ?_)
        · skip
          refine tk_skip ?_
          refine tk_then ?_
          refine tk_seq ?_
          refine tk_block ?_
          refine tk_drawH [own vr ((foldB beginL (pad l)).length) ((foldB beginL (pad l)).map W4) 161 1, cel b11 ([B 128]) 5, own vb ((pad l).length) ((pad l).map B) 5 1] [] (by kernel_rfl) ?_
          refine tx_q 0 rfl (by kernel_rfl) rfl rfl rfl (fun _ _ _ h => h) (y_move rfl) ?_
          refine tx_q 1 rfl (by kernel_rfl) rfl rfl rfl (fun _ _ _ h => h) (y_move rfl) ?_
          refine tx_q 2 rfl (by kernel_rfl) rfl rfl rfl (fun _ _ _ h => h) (y_move rfl) ?_
          refine tx_q 3 rfl (by kernel_rfl) rfl rfl rfl (fun _ _ _ h => h) (y_ixR (j := i) rfl rfl hfr.choose_spec lenP (by kernel_rfl)) ?_
          refine tx_l 4 rfl (by kernel_rfl) (by kernel_rfl) rfl rfl rfl (fun _ _ _ h => h) (fun _ h => h.sub (.cons _ (List.Sublist.refl _))) (y_load rfl rfl (fun w hw => ((fun w hw => own_rdS (hw.mem (.head _))) w hw).cell (gM (d := 0) lenP))) ?_
          refine tx_q 5 rfl (by kernel_rfl) rfl rfl rfl (fun _ _ _ h => h) (y_shrW (a := (foldB beginL (pad l)).getD i 0) (m := 24) rfl rfl (by decide)) ?_
          refine tx_q 6 rfl (by kernel_rfl) rfl rfl rfl (fun _ _ _ h => h) (y_convW8 (a := ((foldB beginL (pad l)).getD i 0) >>> UInt32.ofNat 24) rfl rfl rfl) ?_
          refine tx_q 7 rfl (by kernel_rfl) rfl rfl rfl (fun _ _ _ h => h) (y_move rfl) ?_
          refine tx_q 8 rfl (by kernel_rfl) rfl rfl rfl (fun _ _ _ h => h) (y_move rfl) ?_
          refine tx_q 9 rfl (by kernel_rfl) rfl rfl rfl (fun _ _ _ h => h) (y_ixR (j := i) rfl rfl hfr.choose_spec lenP (by kernel_rfl)) ?_
          refine tx_l 10 rfl (by kernel_rfl) (by kernel_rfl) rfl rfl rfl (fun _ _ _ h => h) (fun _ h => h.sub (.cons _ (List.Sublist.refl _))) (y_load rfl rfl (fun w hw => ((fun w hw => own_rdS (hw.mem (.head _))) w hw).cell (gM (d := 0) lenP))) ?_
          refine tx_q 11 rfl (by kernel_rfl) rfl rfl rfl (fun _ _ _ h => h) (y_shrW (a := (foldB beginL (pad l)).getD i 0) (m := 16) rfl rfl (by decide)) ?_
          refine tx_q 12 rfl (by kernel_rfl) rfl rfl rfl (fun _ _ _ h => h) (y_convW8 (a := ((foldB beginL (pad l)).getD i 0) >>> UInt32.ofNat 16) rfl rfl rfl) ?_
          refine tx_q 13 rfl (by kernel_rfl) rfl rfl rfl (fun _ _ _ h => h) (y_move rfl) ?_
          refine tx_q 14 rfl (by kernel_rfl) rfl rfl rfl (fun _ _ _ h => h) (y_move rfl) ?_
          refine tx_q 15 rfl (by kernel_rfl) rfl rfl rfl (fun _ _ _ h => h) (y_ixR (j := i) rfl rfl hfr.choose_spec lenP (by kernel_rfl)) ?_
          refine tx_l 16 rfl (by kernel_rfl) (by kernel_rfl) rfl rfl rfl (fun _ _ _ h => h) (fun _ h => h.sub (.cons _ (List.Sublist.refl _))) (y_load rfl rfl (fun w hw => ((fun w hw => own_rdS (hw.mem (.head _))) w hw).cell (gM (d := 0) lenP))) ?_
          refine tx_q 17 rfl (by kernel_rfl) rfl rfl rfl (fun _ _ _ h => h) (y_shrW (a := (foldB beginL (pad l)).getD i 0) (m := 8) rfl rfl (by decide)) ?_
          refine tx_q 18 rfl (by kernel_rfl) rfl rfl rfl (fun _ _ _ h => h) (y_convW8 (a := ((foldB beginL (pad l)).getD i 0) >>> UInt32.ofNat 8) rfl rfl rfl) ?_
          refine tx_q 19 rfl (by kernel_rfl) rfl rfl rfl (fun _ _ _ h => h) (y_move rfl) ?_
          refine tx_q 20 rfl (by kernel_rfl) rfl rfl rfl (fun _ _ _ h => h) (y_move rfl) ?_
          refine tx_q 21 rfl (by kernel_rfl) rfl rfl rfl (fun _ _ _ h => h) (y_ixR (j := i) rfl rfl hfr.choose_spec lenP (by kernel_rfl)) ?_
          refine tx_l 22 rfl (by kernel_rfl) (by kernel_rfl) rfl rfl rfl (fun _ _ _ h => h) (fun _ h => h.sub (.cons _ (List.Sublist.refl _))) (y_load rfl rfl (fun w hw => ((fun w hw => own_rdS (hw.mem (.head _))) w hw).cell (gM (d := 0) lenP))) ?_
          refine tx_q 23 rfl (by kernel_rfl) rfl rfl rfl (fun _ _ _ h => h) (y_convW8 (a := (foldB beginL (pad l)).getD i 0) rfl rfl rfl) ?_
          refine tx_a 24 rfl (by kernel_rfl) rfl ?_; refine a_slitN (vs := [B ((((foldB beginL (pad l)).getD i 0) >>> UInt32.ofNat 24).toUInt8), B ((((foldB beginL (pad l)).getD i 0) >>> UInt32.ofNat 16).toUInt8), B ((((foldB beginL (pad l)).getD i 0) >>> UInt32.ofNat 8).toUInt8), B (((foldB beginL (pad l)).getD i 0).toUInt8)]) rfl (List.forall_mem_cons.2 ⟨rfl, (List.forall_mem_cons.2 ⟨rfl, (List.forall_mem_cons.2 ⟨rfl, (List.forall_mem_cons.2 ⟨rfl, (fun _ h => nomatch h)⟩)⟩)⟩)⟩) (EL26) rfl rfl (by decide) fun b73 => ?_
          refine tk_S (fun _ h => h.sub (.cons _ (.cons _ (List.Sublist.refl _)))) ?_
          refine tx_more [cel b73 ([B ((((foldB beginL (pad l)).getD i 0) >>> UInt32.ofNat 24).toUInt8), B ((((foldB beginL (pad l)).getD i 0) >>> UInt32.ofNat 16).toUInt8), B ((((foldB beginL (pad l)).getD i 0) >>> UInt32.ofNat 8).toUInt8), B (((foldB beginL (pad l)).getD i 0).toUInt8)]) 5, own vr ((foldB beginL (pad l)).length) ((foldB beginL (pad l)).map W4) 161 1, cel b11 ([B 128]) 5, own vb ((pad l).length) ((pad l).map B) 5 1] (fun _ h => h.sub (.cons _ (List.Sublist.refl _))) (fun _ h => h.sub (.cons_cons _ (.cons _ (List.Sublist.refl _)))) ?_
          refine tx_a 25 rfl (by kernel_rfl) rfl ?_; refine a_appM (H1 := [_]) (f := B) (l := (outB (foldB beginL (pad l))).take (4 * i)) (m := [(((foldB beginL (pad l)).getD i 0) >>> UInt32.ofNat 24).toUInt8, (((foldB beginL (pad l)).getD i 0) >>> UInt32.ofNat 16).toUInt8, (((foldB beginL (pad l)).getD i 0) >>> UInt32.ofNat 8).toUInt8, ((foldB beginL (pad l)).getD i 0).toUInt8]) rfl rfl EL26 rfl rfl (fun w hw => cel_rdE (o := 0) (m := 4) (cp := 4) (vs := [(((foldB beginL (pad l)).getD i 0) >>> UInt32.ofNat 24).toUInt8, (((foldB beginL (pad l)).getD i 0) >>> UInt32.ofNat 16).toUInt8, (((foldB beginL (pad l)).getD i 0) >>> UInt32.ofNat 8).toUInt8, ((foldB beginL (pad l)).getD i 0).toUInt8].map B) (hw.mem (.head _)) (rfl) (by first | rfl | (simp; done) | (simp; omega)) (by first | omega | (simp; done) | (simp; omega))) (fun _ => rfl) ⟨lenP, lenP⟩ fun v74 => ?_
          refine tk_own1 (.tail _ (.head _)) fun hfv74 => ?_
          refine tk_S (fun _ h => h.sub (.cons_cons _ (.cons _ (List.Sublist.refl _)))) ?_
          refine tx_q 26 rfl (by kernel_rfl) rfl rfl rfl (fun _ _ _ h => h) (y_assign rfl) ?_
          refine tx_done (by kernel_rfl) ?_
          refine tk_in_normal ?_
          refine tk_then ?_
          refine tk_region ?_
          refine tk_q rfl rfl rfl (y_move rfl) ?_
          refine tk_q rfl rfl rfl (y_addN (a := i) (b := 1) rfl rfl (by omega)) ?_
          refine tk_q rfl rfl rfl (y_assign rfl) ?_
          refine tk_nil ?_
          refine tk_H [cel b73 ([B ((((foldB beginL (pad l)).getD i 0) >>> UInt32.ofNat 24).toUInt8), B ((((foldB beginL (pad l)).getD i 0) >>> UInt32.ofNat 16).toUInt8), B ((((foldB beginL (pad l)).getD i 0) >>> UInt32.ofNat 8).toUInt8), B (((foldB beginL (pad l)).getD i 0).toUInt8)]) 5, own v74 (((outB (foldB beginL (pad l))).take (4 * (i + 1))).length) (((outB (foldB beginL (pad l))).take (4 * (i + 1))).map B) 5 1, own vr ((foldB beginL (pad l)).length) ((foldB beginL (pad l)).map W4) 161 1, cel b11 ([B 128]) 5, own vb ((pad l).length) ((pad l).map B) 5 1] (congrArg (fun z_ => [cel b73 ([B ((((foldB beginL (pad l)).getD i 0) >>> UInt32.ofNat 24).toUInt8), B ((((foldB beginL (pad l)).getD i 0) >>> UInt32.ofNat 16).toUInt8), B ((((foldB beginL (pad l)).getD i 0) >>> UInt32.ofNat 8).toUInt8), B (((foldB beginL (pad l)).getD i 0).toUInt8)]) 5, z_, own vr ((foldB beginL (pad l)).length) ((foldB beginL (pad l)).map W4) 161 1, cel b11 ([B 128]) 5, own vb ((pad l).length) ((pad l).map B) 5 1]) (show own v74 ((((outB (foldB beginL (pad l))).take (4 * i)) ++ [(((foldB beginL (pad l)).getD i 0) >>> UInt32.ofNat 24).toUInt8, (((foldB beginL (pad l)).getD i 0) >>> UInt32.ofNat 16).toUInt8, (((foldB beginL (pad l)).getD i 0) >>> UInt32.ofNat 8).toUInt8, ((foldB beginL (pad l)).getD i 0).toUInt8]).length) ((((outB (foldB beginL (pad l))).take (4 * i)) ++ [(((foldB beginL (pad l)).getD i 0) >>> UInt32.ofNat 24).toUInt8, (((foldB beginL (pad l)).getD i 0) >>> UInt32.ofNat 16).toUInt8, (((foldB beginL (pad l)).getD i 0) >>> UInt32.ofNat 8).toUInt8, ((foldB beginL (pad l)).getD i 0).toUInt8]).map B) 5 1 = own v74 (((outB (foldB beginL (pad l))).take (4 * (i + 1))).length) (((outB (foldB beginL (pad l))).take (4 * (i + 1))).map B) 5 1 from ownM_cast (outB_snoc (by omega)))) ?_
          exact tk_again ((i + 1, v74)) (by dsimp only; omega) (by first | omega | (dsimp only; omega)) (by repeat (first | exact trivial | refine ⟨rfl, ?_⟩)) (.cons _ (List.Sublist.refl _))
        · skip
          refine tk_H [own vo ((sumL l).length) ((sumL l).map B) 5 1, own vr ((foldB beginL (pad l)).length) ((foldB beginL (pad l)).map W4) 161 1, cel b11 ([B 128]) 5, own vb ((pad l).length) ((pad l).map B) 5 1] (congrArg (fun z_ => [z_, own vr ((foldB beginL (pad l)).length) ((foldB beginL (pad l)).map W4) 161 1, cel b11 ([B 128]) 5, own vb ((pad l).length) ((pad l).map B) 5 1]) (show own vo (((outB (foldB beginL (pad l))).take (4 * i)).length) (((outB (foldB beginL (pad l))).take (4 * i)).map B) 5 1 = own vo ((sumL l).length) ((sumL l).map B) 5 1 from ownM_cast (by rw [show i = 8 by omega]; exact out_all))) ?_
          refine tk_exit ?_
          refine tk_then_exit ?_
          refine tk_then_exit ?_
          refine tk_in_hit ?_
          refine tk_then ?_
          refine tk_seq ?_
          refine tk_region ?_
          refine tk_q rfl rfl rfl (y_move rfl) ?_
          refine tk_q rfl rfl rfl (y_str (l := sumL l) rfl rfl rfl rfl (fun w hw => own_rdS (hw.mem (.head _)))) ?_
          refine tk_q rfl rfl rfl (y_assign rfl) ?_
          refine tk_nil ?_
          refine tk_then ?_
          refine tk_retc ?_
          exact tk_ret (()) (trivial) (.inl rfl) (r1 rfl rfl) (List.nil_sublist _)
theorem rkeyed_spec {k l : List UInt8} {w : World} (hk : k.length < 1099511627776) (hb : l.length < 1099511627776) : Spec Tryd.prog 89 [Str k, Str l] w [] (fun _ : Unit => True) (fun _ => Str (keyedL k l)) (fun _ => []) := by
  refine spec_of (n := 60) Tryd.func89 rfl rfl trivial trivial rfl ?_
  have hk64 : (hmKey k).length ≤ 64 := hmKey_len
  refine tk_seq ?_
  refine tk_region ?_
  refine tk_q rfl rfl rfl (y_assign rfl) ?_
  refine tk_nil ?_
  refine tk_then ?_
  refine tk_seqI (X := Unit) (fun _ => True) (fun _ => [(0, Str (hmKey k)), (1, Str l), (4, Str [])]) (fun _ => []) ?_ ?_
  · skip
    refine tk_seq ?_
    refine tk_region ?_
    refine tk_q rfl rfl rfl (y_move rfl) ?_
    refine tk_q rfl rfl rfl (y_lenStr (l := k) rfl rfl) ?_
    refine tk_q rfl rfl rfl (y_gtr rfl rfl) ?_
    refine tk_nil ?_
    refine tk_then ?_
    refine tk_condP rfl (fun ht10 => ?_) (fun ht10 => ?_)
    · skip
      have hk0 : hmKey k = sumL k := by unfold hmKey; rw [if_pos (by omega)]
      refine tk_region ?_
      refine tk_q rfl rfl rfl (y_move rfl) ?_
      refine tk_act rfl ?_; refine a_callv [] _ rfl (by kernel_rfl) rfl (fun w' hw' => rof_spec (l := k) lenP) rfl fun _ _ => ?_
      refine tk_q rfl rfl rfl (y_assign rfl) ?_
      refine tk_nil ?_
      refine tk_re 0 (Str (sumL k)) (Str (hmKey k)) rfl (by rw [hk0]) ?_
      exact tk_to (()) (by first | exact trivial | omega | (dsimp only; omega)) (by repeat (first | exact trivial | refine ⟨rfl, ?_⟩)) (List.Sublist.refl _)
    · skip
      have hk0 : hmKey k = k := by unfold hmKey; rw [if_neg (by omega)]
      refine tk_skip ?_
      refine tk_re 0 (Str k) (Str (hmKey k)) rfl (by rw [hk0]) ?_
      exact tk_to (()) (by first | exact trivial | omega | (dsimp only; omega)) (by repeat (first | exact trivial | refine ⟨rfl, ?_⟩)) (List.Sublist.refl _)
  · rintro _ hI
    try dsimp only at hI ⊢
    refine tk_seqI (X := Nat × Nat) (fun (b13, b14) => True) (fun (b13, b14) => [(0, Str (hmKey k)), (1, Str l), (4, Str []), (5, .slice (some ⟨b13, 0, none⟩) 64 64), (6, .slice (some ⟨b14, 0, none⟩) 64 64)]) (fun (b13, b14) => [cel b13 ((List.replicate 64 0).map B) 5, cel b14 ((List.replicate 64 0).map B) 5]) ?_ ?_
    · skip
      refine tk_drawH [] [] (by kernel_rfl) ?_
      refine tx_all (is := [0, 1]) (by kernel_rfl) rfl ⟨⟨_, rfl, rfl, ?_⟩, ⟨_, rfl, rfl, ?_⟩, trivial⟩
      · skip
        skip; refine a_makeM (f := B) (z := 0) (m := 64) rfl rfl MK26 rfl rfl ⟨lenP, lenP⟩ fun b13 => ?_
        refine tk_S (fun _ h => h.sub (List.nil_sublist _)) ?_
        refine tx_q 2 rfl (by kernel_rfl) rfl rfl rfl (fun _ _ _ h => h) (y_assign rfl) ?_
        refine tx_a 1 rfl (by kernel_rfl) rfl ?_; refine a_makeM (f := B) (z := 0) (m := 64) rfl rfl MK26 rfl rfl ⟨lenP, lenP⟩ fun b14 => ?_
        refine tk_S (fun _ h => h.sub (List.nil_sublist _)) ?_
        refine tx_q 3 rfl (by kernel_rfl) rfl rfl rfl (fun _ _ _ h => h) (y_assign rfl) ?_
        refine tx_done (by kernel_rfl) ?_
        refine tk_perm _ (.trans (.cons _ (List.Perm.refl _)) (.swap _ _ _)) ?_
        exact tk_to ((b13, b14)) (by first | exact trivial | omega | (dsimp only; omega)) (by repeat (first | exact trivial | refine ⟨rfl, ?_⟩)) (List.Sublist.refl _)
      · skip
        skip; refine a_makeM (f := B) (z := 0) (m := 64) rfl rfl MK26 rfl rfl ⟨lenP, lenP⟩ fun b14 => ?_
        refine tk_S (fun _ h => h.sub (List.nil_sublist _)) ?_
        refine tx_a 0 rfl (by kernel_rfl) rfl ?_; refine a_makeM (f := B) (z := 0) (m := 64) rfl rfl MK26 rfl rfl ⟨lenP, lenP⟩ fun b13 => ?_
        refine tk_S (fun _ h => h.sub (List.nil_sublist _)) ?_
        refine tx_q 2 rfl (by kernel_rfl) rfl rfl rfl (fun _ _ _ h => h) (y_assign rfl) ?_
        refine tx_q 3 rfl (by kernel_rfl) rfl rfl rfl (fun _ _ _ h => h) (y_assign rfl) ?_
        refine tx_done (by kernel_rfl) ?_
        exact tk_to ((b13, b14)) (by first | exact trivial | omega | (dsimp only; omega)) (by repeat (first | exact trivial | refine ⟨rfl, ?_⟩)) (List.Sublist.refl _)
    · rintro ⟨b13, b14⟩ hI
      try dsimp only at hI ⊢
      refine tk_seq ?_
      refine tk_seq ?_
      refine tk_region ?_
      refine tk_q rfl rfl rfl (y_assign rfl) ?_
      refine tk_nil ?_
      refine tk_then ?_
      refine tk_block ?_
      refine tk_H [cel b13 ((takeZ (xorPad (hmKey k) 54) 64 0).map B) 5, cel b14 ((List.replicate 64 0).map B) 5] (congrArg (fun z_ => [cel b13 z_ 5, cel b14 ((List.replicate 64 0).map B) 5]) (show (List.replicate 64 0).map B = (takeZ (xorPad (hmKey k) 54) 64 0).map B from by rw [takeZ_0])) ?_
      refine tk_H [cel b13 ((takeZ (xorPad (hmKey k) 54) 64 0).map B) 5, cel b14 ((takeZ (xorPad (hmKey k) 92) 64 0).map B) 5] (congrArg (fun z_ => [cel b13 ((takeZ (xorPad (hmKey k) 54) 64 0).map B) 5, cel b14 z_ 5]) (show (List.replicate 64 0).map B = (takeZ (xorPad (hmKey k) 92) 64 0).map B from by rw [takeZ_0])) ?_
      refine tk_loop (X := Nat) (fun i => i ≤ 64) (fun i => [(0, Str (hmKey k)), (1, Str l), (4, Str []), (5, .slice (some ⟨b13, 0, none⟩) 64 64), (6, .slice (some ⟨b14, 0, none⟩) 64 64), (7, I ((i : Nat) : Int))]) (fun i => [cel b13 ((takeZ (xorPad (hmKey k) 54) 64 i).map B) 5, cel b14 ((takeZ (xorPad (hmKey k) 92) 64 i).map B) 5]) (fun i => 64 - i) (0) (by first | exact trivial | omega | (dsimp only; omega)) (by repeat (first | exact trivial | refine ⟨rfl, ?_⟩)) ((List.Sublist.refl _)) ?_
      rintro i hI
      try dsimp only at hI ⊢
      have hz1 : (takeZ (xorPad (hmKey k) 54) 64 i).length = 64 := takeZ_len xorPad_len (by omega)
      have hz2 : (takeZ (xorPad (hmKey k) 92) 64 i).length = 64 := takeZ_len xorPad_len (by omega)
      refine tk_seq ?_
      refine tk_seq ?_
      refine tk_region ?_
      refine tk_q rfl rfl rfl (y_move rfl) ?_
      refine tk_q rfl rfl rfl (y_lss rfl rfl) ?_
      refine tk_nil ?_
      refine tk_then ?_
      refine tk_condP rfl (fun ht16 => ?_) (fun ht16 => ?_)
      · skip
        refine tk_skip ?_
        refine tk_then ?_
        refine tk_seq ?_
        refine tk_block ?_
        refine tk_seq ?_
        refine tk_seq ?_
        refine tk_region ?_
        refine tk_q rfl rfl rfl (y_move rfl) ?_
        refine tk_q rfl rfl rfl (y_move rfl) ?_
        refine tk_q rfl rfl rfl (y_lenStr (l := hmKey k) rfl rfl) ?_
        refine tk_q rfl rfl rfl (y_lss rfl rfl) ?_
        refine tk_nil ?_
        refine tk_then ?_
        refine tk_condP rfl (fun ht22 => ?_) (fun ht22 => ?_)
        · skip
          refine tk_drawH [] [] (by kernel_rfl) ?_
          refine tx_q 0 rfl (by kernel_rfl) rfl rfl rfl (fun _ _ _ h => h) (y_move rfl) ?_
          refine tx_q 1 rfl (by kernel_rfl) rfl rfl rfl (fun _ _ _ h => h) (y_move rfl) ?_
          refine tx_q 2 rfl (by kernel_rfl) rfl rfl rfl (fun _ _ _ h => h) (y_move rfl) ?_
          refine tx_q 3 rfl (by kernel_rfl) rfl rfl rfl (fun _ _ _ h => h) (y_move rfl) ?_
          refine tx_q 4 rfl (by kernel_rfl) rfl rfl rfl (fun _ _ _ h => h) (y_move rfl) ?_
          refine tx_q 5 rfl (by kernel_rfl) rfl rfl rfl (fun _ _ _ h => h) (y_move rfl) ?_
          refine tx_q 6 rfl (by kernel_rfl) rfl rfl rfl (fun _ _ _ h => h) (y_ixT (l := hmKey k) (i := i) rfl rfl rfl ⟨rfl, lenP⟩) ?_
          refine tx_q 7 rfl (by kernel_rfl) rfl rfl rfl (fun _ _ _ h => h) (y_move rfl) ?_
          refine tx_q 8 rfl (by kernel_rfl) rfl rfl rfl (fun _ _ _ h => h) (y_move rfl) ?_
          refine tx_q 9 rfl (by kernel_rfl) rfl rfl rfl (fun _ _ _ h => h) (y_ixT (l := hmKey k) (i := i) rfl rfl rfl ⟨rfl, lenP⟩) ?_
          refine tx_q 10 rfl (by kernel_rfl) rfl rfl rfl (fun _ _ _ h => h) (y_ixS01 (i := i) rfl rfl (by kernel_rfl) (by omega)) ?_
          refine tx_a 11 rfl (by kernel_rfl) rfl ?_; refine a_storeE (H1 := []) (o := i) (v := B ((hmKey k).getD i 0)) (cs' := ((takeZ (xorPad (hmKey k) 54) 64 i).set i ((hmKey k).getD i 0)).map B) rfl rfl (by kernel_rfl) rfl rfl (by first | (simp; done) | (simp; omega)) (sM) ?_
          refine tk_S (fun _ h => h.sub (List.nil_sublist _)) ?_
          refine tx_q 12 rfl (by kernel_rfl) rfl rfl rfl (fun _ _ _ h => h) (y_ixS01 (i := i) rfl rfl (by kernel_rfl) (by omega)) ?_
          refine tx_a 13 rfl (by kernel_rfl) rfl ?_; refine a_storeE (H1 := [_]) (o := i) (v := B ((hmKey k).getD i 0)) (cs' := ((takeZ (xorPad (hmKey k) 92) 64 i).set i ((hmKey k).getD i 0)).map B) rfl rfl (by kernel_rfl) rfl rfl (by first | (simp; done) | (simp; omega)) (sM) ?_
          refine tk_S (fun _ h => h.sub (List.nil_sublist _)) ?_
          refine tx_done (by kernel_rfl) ?_
          refine tk_then ?_
          refine tk_drawH [cel b13 (((takeZ (xorPad (hmKey k) 54) 64 i).set i ((hmKey k).getD i 0)).map B) 5, cel b14 (((takeZ (xorPad (hmKey k) 92) 64 i).set i ((hmKey k).getD i 0)).map B) 5] [15, 17] (by kernel_rfl) ?_
          refine tx_q 0 rfl (by kernel_rfl) rfl rfl rfl (fun _ _ _ h => h) (y_move rfl) ?_
          refine tx_q 1 rfl (by kernel_rfl) rfl rfl rfl (fun _ _ _ h => h) (y_move rfl) ?_
          refine tx_q 2 rfl (by kernel_rfl) rfl rfl rfl (fun _ _ _ h => h) (y_move rfl) ?_
          refine tx_q 3 rfl (by kernel_rfl) rfl rfl rfl (fun _ _ _ h => h) (y_move rfl) ?_
          refine tx_q 4 rfl (by kernel_rfl) rfl rfl rfl (fun _ _ _ h => h) (y_move rfl) ?_
          refine tx_q 5 rfl (by kernel_rfl) rfl rfl rfl (fun _ _ _ h => h) (y_move rfl) ?_
          refine tx_q 6 rfl (by kernel_rfl) rfl rfl rfl (fun _ _ _ h => h) (y_ixS01 (i := i) rfl rfl (by kernel_rfl) (by omega)) ?_
          refine tx_l 7 rfl (by kernel_rfl) (by kernel_rfl) rfl rfl rfl (fun _ _ _ h => h) (fun _ h => h.sub (List.Sublist.refl _)) (y_load rfl rfl (hc (o := i) (.head _) (gM (d := 0) lenP))) ?_
          refine tx_q 8 rfl (by kernel_rfl) rfl rfl rfl (fun _ _ _ h => h) (y_xor8 (a := ((takeZ (xorPad (hmKey k) 54) 64 i).set i ((hmKey k).getD i 0)).getD i 0) (b := 54) rfl rfl) ?_
          refine tx_q 9 rfl (by kernel_rfl) rfl rfl rfl (fun _ _ _ h => h) (y_move rfl) ?_
          refine tx_q 10 rfl (by kernel_rfl) rfl rfl rfl (fun _ _ _ h => h) (y_move rfl) ?_
          refine tx_q 11 rfl (by kernel_rfl) rfl rfl rfl (fun _ _ _ h => h) (y_ixS01 (i := i) rfl rfl (by kernel_rfl) (by omega)) ?_
          refine tx_l 12 rfl (by kernel_rfl) (by kernel_rfl) rfl rfl rfl (fun _ _ _ h => h) (fun _ h => h.sub (List.Sublist.refl _)) (y_load rfl rfl (hc (o := i) (.tail _ (.head _)) (gM (d := 0) lenP))) ?_
          refine tx_q 13 rfl (by kernel_rfl) rfl rfl rfl (fun _ _ _ h => h) (y_xor8 (a := ((takeZ (xorPad (hmKey k) 92) 64 i).set i ((hmKey k).getD i 0)).getD i 0) (b := 92) rfl rfl) ?_
          refine tx_q 14 rfl (by kernel_rfl) rfl rfl rfl (fun _ _ _ h => h) (y_ixS01 (i := i) rfl rfl (by kernel_rfl) (by omega)) ?_
          refine tx_x 15 rfl (by kernel_rfl) rfl rfl ?_; refine a_storeE (H1 := []) (o := i) (v := B ((((takeZ (xorPad (hmKey k) 54) 64 i).set i ((hmKey k).getD i 0)).getD i 0) ^^^ 54)) (cs' := (((takeZ (xorPad (hmKey k) 54) 64 i).set i ((hmKey k).getD i 0)).set i ((((takeZ (xorPad (hmKey k) 54) 64 i).set i ((hmKey k).getD i 0)).getD i 0) ^^^ 54)).map B) rfl rfl (by kernel_rfl) rfl rfl (by first | (simp; done) | (simp; omega)) (sM) ?_
          refine tx_q 16 rfl (by kernel_rfl) rfl rfl rfl (fun _ _ _ h => h) (y_ixS01 (i := i) rfl rfl (by kernel_rfl) (by omega)) ?_
          refine tx_x 17 rfl (by kernel_rfl) rfl rfl ?_; refine a_storeE (H1 := [_]) (o := i) (v := B ((((takeZ (xorPad (hmKey k) 92) 64 i).set i ((hmKey k).getD i 0)).getD i 0) ^^^ 92)) (cs' := (((takeZ (xorPad (hmKey k) 92) 64 i).set i ((hmKey k).getD i 0)).set i ((((takeZ (xorPad (hmKey k) 92) 64 i).set i ((hmKey k).getD i 0)).getD i 0) ^^^ 92)).map B) rfl rfl (by kernel_rfl) rfl rfl (by first | (simp; done) | (simp; omega)) (sM) ?_
          refine tx_done (by kernel_rfl) ?_
          refine tk_in_normal ?_
          refine tk_then ?_
          refine tk_region ?_
          refine tk_q rfl rfl rfl (y_move rfl) ?_
          refine tk_q rfl rfl rfl (y_addN (a := i) (b := 1) rfl rfl (by omega)) ?_
          refine tk_q rfl rfl rfl (y_assign rfl) ?_
          refine tk_nil ?_
          refine tk_H [cel b13 ((takeZ (xorPad (hmKey k) 54) 64 (i + 1)).map B) 5, cel b14 ((((takeZ (xorPad (hmKey k) 92) 64 i).set i ((hmKey k).getD i 0)).set i ((((takeZ (xorPad (hmKey k) 92) 64 i).set i ((hmKey k).getD i 0)).getD i 0) ^^^ 92)).map B) 5] (congrArg (fun z_ => [cel b13 z_ 5, cel b14 ((((takeZ (xorPad (hmKey k) 92) 64 i).set i ((hmKey k).getD i 0)).set i ((((takeZ (xorPad (hmKey k) 92) 64 i).set i ((hmKey k).getD i 0)).getD i 0) ^^^ 92)).map B) 5]) (show (((takeZ (xorPad (hmKey k) 54) 64 i).set i ((hmKey k).getD i 0)).set i ((((takeZ (xorPad (hmKey k) 54) 64 i).set i ((hmKey k).getD i 0)).getD i 0) ^^^ 54)).map B = (takeZ (xorPad (hmKey k) 54) 64 (i + 1)).map B from congrArg (List.map B) (padT (by omega)))) ?_
          refine tk_H [cel b13 ((takeZ (xorPad (hmKey k) 54) 64 (i + 1)).map B) 5, cel b14 ((takeZ (xorPad (hmKey k) 92) 64 (i + 1)).map B) 5] (congrArg (fun z_ => [cel b13 ((takeZ (xorPad (hmKey k) 54) 64 (i + 1)).map B) 5, cel b14 z_ 5]) (show (((takeZ (xorPad (hmKey k) 92) 64 i).set i ((hmKey k).getD i 0)).set i ((((takeZ (xorPad (hmKey k) 92) 64 i).set i ((hmKey k).getD i 0)).getD i 0) ^^^ 92)).map B = (takeZ (xorPad (hmKey k) 92) 64 (i + 1)).map B from congrArg (List.map B) (padT (by omega)))) ?_
          exact tk_again (i + 1) (by first | exact trivial | omega | (dsimp only; omega)) (by first | omega | (dsimp only; omega)) (by repeat (first | exact trivial | refine ⟨rfl, ?_⟩)) (List.Sublist.refl _)
        · skip
          refine tk_skip ?_
          refine tk_then ?_
          refine tk_drawH [cel b13 ((takeZ (xorPad (hmKey k) 54) 64 i).map B) 5, cel b14 ((takeZ (xorPad (hmKey k) 92) 64 i).map B) 5] [15, 17] (by kernel_rfl) ?_
          refine tx_q 0 rfl (by kernel_rfl) rfl rfl rfl (fun _ _ _ h => h) (y_move rfl) ?_
          refine tx_q 1 rfl (by kernel_rfl) rfl rfl rfl (fun _ _ _ h => h) (y_move rfl) ?_
          refine tx_q 2 rfl (by kernel_rfl) rfl rfl rfl (fun _ _ _ h => h) (y_move rfl) ?_
          refine tx_q 3 rfl (by kernel_rfl) rfl rfl rfl (fun _ _ _ h => h) (y_move rfl) ?_
          refine tx_q 4 rfl (by kernel_rfl) rfl rfl rfl (fun _ _ _ h => h) (y_move rfl) ?_
          refine tx_q 5 rfl (by kernel_rfl) rfl rfl rfl (fun _ _ _ h => h) (y_move rfl) ?_
          refine tx_q 6 rfl (by kernel_rfl) rfl rfl rfl (fun _ _ _ h => h) (y_ixS01 (i := i) rfl rfl (by kernel_rfl) (by omega)) ?_
          refine tx_l 7 rfl (by kernel_rfl) (by kernel_rfl) rfl rfl rfl (fun _ _ _ h => h) (fun _ h => h.sub (List.Sublist.refl _)) (y_load rfl rfl (hc (o := i) (.head _) (gM (d := 0) lenP))) ?_
          refine tx_q 8 rfl (by kernel_rfl) rfl rfl rfl (fun _ _ _ h => h) (y_xor8 (a := (takeZ (xorPad (hmKey k) 54) 64 i).getD i 0) (b := 54) rfl rfl) ?_
          refine tx_q 9 rfl (by kernel_rfl) rfl rfl rfl (fun _ _ _ h => h) (y_move rfl) ?_
          refine tx_q 10 rfl (by kernel_rfl) rfl rfl rfl (fun _ _ _ h => h) (y_move rfl) ?_
          refine tx_q 11 rfl (by kernel_rfl) rfl rfl rfl (fun _ _ _ h => h) (y_ixS01 (i := i) rfl rfl (by kernel_rfl) (by omega)) ?_
          refine tx_l 12 rfl (by kernel_rfl) (by kernel_rfl) rfl rfl rfl (fun _ _ _ h => h) (fun _ h => h.sub (List.Sublist.refl _)) (y_load rfl rfl (hc (o := i) (.tail _ (.head _)) (gM (d := 0) lenP))) ?_
          refine tx_q 13 rfl (by kernel_rfl) rfl rfl rfl (fun _ _ _ h => h) (y_xor8 (a := (takeZ (xorPad (hmKey k) 92) 64 i).getD i 0) (b := 92) rfl rfl) ?_
          refine tx_q 14 rfl (by kernel_rfl) rfl rfl rfl (fun _ _ _ h => h) (y_ixS01 (i := i) rfl rfl (by kernel_rfl) (by omega)) ?_
          refine tx_x 15 rfl (by kernel_rfl) rfl rfl ?_; refine a_storeE (H1 := []) (o := i) (v := B (((takeZ (xorPad (hmKey k) 54) 64 i).getD i 0) ^^^ 54)) (cs' := ((takeZ (xorPad (hmKey k) 54) 64 i).set i (((takeZ (xorPad (hmKey k) 54) 64 i).getD i 0) ^^^ 54)).map B) rfl rfl (by kernel_rfl) rfl rfl (by first | (simp; done) | (simp; omega)) (sM) ?_
          refine tx_q 16 rfl (by kernel_rfl) rfl rfl rfl (fun _ _ _ h => h) (y_ixS01 (i := i) rfl rfl (by kernel_rfl) (by omega)) ?_
          refine tx_x 17 rfl (by kernel_rfl) rfl rfl ?_; refine a_storeE (H1 := [_]) (o := i) (v := B (((takeZ (xorPad (hmKey k) 92) 64 i).getD i 0) ^^^ 92)) (cs' := ((takeZ (xorPad (hmKey k) 92) 64 i).set i (((takeZ (xorPad (hmKey k) 92) 64 i).getD i 0) ^^^ 92)).map B) rfl rfl (by kernel_rfl) rfl rfl (by first | (simp; done) | (simp; omega)) (sM) ?_
          refine tx_done (by kernel_rfl) ?_
          refine tk_in_normal ?_
          refine tk_then ?_
          refine tk_region ?_
          refine tk_q rfl rfl rfl (y_move rfl) ?_
          refine tk_q rfl rfl rfl (y_addN (a := i) (b := 1) rfl rfl (by omega)) ?_
          refine tk_q rfl rfl rfl (y_assign rfl) ?_
          refine tk_nil ?_
          refine tk_H [cel b13 ((takeZ (xorPad (hmKey k) 54) 64 (i + 1)).map B) 5, cel b14 (((takeZ (xorPad (hmKey k) 92) 64 i).set i (((takeZ (xorPad (hmKey k) 92) 64 i).getD i 0) ^^^ 92)).map B) 5] (congrArg (fun z_ => [cel b13 z_ 5, cel b14 (((takeZ (xorPad (hmKey k) 92) 64 i).set i (((takeZ (xorPad (hmKey k) 92) 64 i).getD i 0) ^^^ 92)).map B) 5]) (show ((takeZ (xorPad (hmKey k) 54) 64 i).set i (((takeZ (xorPad (hmKey k) 54) 64 i).getD i 0) ^^^ 54)).map B = (takeZ (xorPad (hmKey k) 54) 64 (i + 1)).map B from congrArg (List.map B) (padF (by omega) (by omega)))) ?_
          refine tk_H [cel b13 ((takeZ (xorPad (hmKey k) 54) 64 (i + 1)).map B) 5, cel b14 ((takeZ (xorPad (hmKey k) 92) 64 (i + 1)).map B) 5] (congrArg (fun z_ => [cel b13 ((takeZ (xorPad (hmKey k) 54) 64 (i + 1)).map B) 5, cel b14 z_ 5]) (show ((takeZ (xorPad (hmKey k) 92) 64 i).set i (((takeZ (xorPad (hmKey k) 92) 64 i).getD i 0) ^^^ 92)).map B = (takeZ (xorPad (hmKey k) 92) 64 (i + 1)).map B from congrArg (List.map B) (padF (by omega) (by omega)))) ?_
          exact tk_again (i + 1) (by first | exact trivial | omega | (dsimp only; omega)) (by first | omega | (dsimp only; omega)) (by repeat (first | exact trivial | refine ⟨rfl, ?_⟩)) (List.Sublist.refl _)
      · skip
        refine tk_H [cel b13 ((xorPad (hmKey k) 54).map B) 5, cel b14 ((takeZ (xorPad (hmKey k) 92) 64 i).map B) 5] (congrArg (fun z_ => [cel b13 z_ 5, cel b14 ((takeZ (xorPad (hmKey k) 92) 64 i).map B) 5]) (show (takeZ (xorPad (hmKey k) 54) 64 i).map B = (xorPad (hmKey k) 54).map B from by rw [show i = 64 by omega, takeZ_all xorPad_len])) ?_
        refine tk_H [cel b13 ((xorPad (hmKey k) 54).map B) 5, cel b14 ((xorPad (hmKey k) 92).map B) 5] (congrArg (fun z_ => [cel b13 ((xorPad (hmKey k) 54).map B) 5, cel b14 z_ 5]) (show (takeZ (xorPad (hmKey k) 92) 64 i).map B = (xorPad (hmKey k) 92).map B from by rw [show i = 64 by omega, takeZ_all xorPad_len])) ?_
        refine tk_exit ?_
        refine tk_then_exit ?_
        refine tk_then_exit ?_
        refine tk_in_hit ?_
        refine tk_then ?_
        refine tk_seq ?_
        refine tk_drawH [cel b13 ((xorPad (hmKey k) 54).map B) 5, cel b14 ((xorPad (hmKey k) 92).map B) 5] [] (by kernel_rfl) ?_
        refine tx_q 0 rfl (by kernel_rfl) rfl rfl rfl (fun _ _ _ h => h) (y_move rfl) ?_
        refine tx_l 1 rfl (by kernel_rfl) (by kernel_rfl) rfl rfl rfl (fun _ _ _ h => h) (fun _ h => h.sub (List.Sublist.refl _)) (y_str (l := xorPad (hmKey k) 92) rfl rfl rfl rfl (fun w hw => cel_rdE (o := 0) (m := 64) (cp := 64) (vs := (xorPad (hmKey k) 92).map B) (hw.mem (.tail _ (.head _))) (dsW) (by first | rfl | (simp; done) | (simp; omega)) (by first | omega | (simp; done) | (simp; omega)))) ?_
        refine tx_q 2 rfl (by kernel_rfl) rfl rfl rfl (fun _ _ _ h => h) (y_move rfl) ?_
        refine tx_l 3 rfl (by kernel_rfl) (by kernel_rfl) rfl rfl rfl (fun _ _ _ h => h) (fun _ h => h.sub (List.Sublist.refl _)) (y_str (l := xorPad (hmKey k) 54) rfl rfl rfl rfl (fun w hw => cel_rdE (o := 0) (m := 64) (cp := 64) (vs := (xorPad (hmKey k) 54).map B) (hw.mem (.head _)) (dsW) (by first | rfl | (simp; done) | (simp; omega)) (by first | omega | (simp; done) | (simp; omega)))) ?_
        refine tx_q 4 rfl (by kernel_rfl) rfl rfl rfl (fun _ _ _ h => h) (y_move rfl) ?_
        refine tx_q 5 rfl (by kernel_rfl) rfl rfl rfl (fun _ _ _ h => h) (y_catT (l := xorPad (hmKey k) 54) (m := l) rfl rfl lenP) ?_
        refine tx_a 6 rfl (by kernel_rfl) rfl ?_; refine a_callv [] _ rfl (by kernel_rfl) rfl (fun w' hw' => rof_spec (l := (xorPad (hmKey k) 54) ++ l) lenP) rfl fun _ _ => ?_
        refine tk_S (fun _ h => h.sub (List.Sublist.refl _)) ?_
        refine tx_q 7 rfl (by kernel_rfl) rfl rfl rfl (fun _ _ _ h => h) (y_catT (l := xorPad (hmKey k) 92) (m := sumL ((xorPad (hmKey k) 54) ++ l)) rfl rfl lenP) ?_
        refine tx_a 8 rfl (by kernel_rfl) rfl ?_; refine a_callv [] _ rfl (by kernel_rfl) rfl (fun w' hw' => rof_spec (l := (xorPad (hmKey k) 92) ++ (sumL ((xorPad (hmKey k) 54) ++ l))) lenP) rfl fun _ _ => ?_
        refine tk_S (fun _ h => h.sub (List.Sublist.refl _)) ?_
        refine tx_q 9 rfl (by kernel_rfl) rfl rfl rfl (fun _ _ _ h => h) ((y_assign rfl).cast (v := _) (u := Str (keyedL k l)) (by simp only [keyedL])) ?_
        refine tx_done (by kernel_rfl) ?_
        refine tk_then ?_
        refine tk_retc ?_
        exact tk_ret (()) (trivial) (.inl rfl) (r1 rfl rfl) (List.nil_sublist _)
end Go.Proofs.YtfofkjajlfphjaaDoor

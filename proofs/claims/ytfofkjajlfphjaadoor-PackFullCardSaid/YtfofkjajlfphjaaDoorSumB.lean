/- sum: the walks over end, Of, Keyed and Same. -/
import Derived.Test.YtfofkjajlfphjaaDoorSumA
set_option linter.unusedSimpArgs false
set_option linter.unusedVariables false
namespace Go.Proofs.YtfofkjajlfphjaaDoor
open Go Go.RowKit
set_option maxRecDepth 100000
attribute [local irreducible] sumL outB keyedL hmKey xorPad xorI takeZ blockF len8 zc
theorem take_snocG {α : Type} {m : List α} {j : Nat} {d : α} (h : j < m.length) : m.take (j + 1) = m.take j ++ [m.getD j d] := by
  rw [List.take_add_one, List.getD_eq_getElem?_getD]; simp [h]
theorem flat_snoc {ps : List Sb} {j : Nat} {d : Sb} (h : j < ps.length) : (ps.take (j + 1)).flatMap Prod.snd = (ps.take j).flatMap Prod.snd ++ (ps.getD j d).2 := by
  rw [take_snocG (d := d) h, List.flatMap_append]; simp
theorem flat_le {ps : List Sb} {i : Nat} (h : i < ps.length) : ((ps.take i).flatMap Prod.snd).length + (ps.getD i dP).2.length ≤ (ps.flatMap Prod.snd).length := by
  have e : ps.flatMap Prod.snd = (ps.take (i + 1)).flatMap Prod.snd ++ (ps.drop (i + 1)).flatMap Prod.snd := by rw [← List.flatMap_append, List.take_append_drop]
  rw [e, flat_snoc (d := dP) h]; simp
theorem same_end {ps : List Sb} {l : List UInt8} {j : Nat} {e : UInt8} (h : e = 0 ↔ ∀ p ∈ ps.take j, p.2 = l) (hj : j = ps.length ∨ ps.length ≤ j) : ((e.toNat : Int) = 0) ↔ ∀ p ∈ ps, p.2 = l := by
  rw [List.take_of_length_le (by omega)] at h
  rw [← h]
  constructor
  · intro h0; exact UInt8.toNat.inj (by simpa using h0)
  · rintro rfl; rfl
theorem end_spec {sb n : Nat} {R : List UInt32} {W l : List UInt8} {w : World} (hS : SI l R W) (hn : n = l.length) (hb : l.length < 1152921504606846000) (hg : Ro (Fs [cel sb (R.map W4 ++ (W.map B ++ [I ((n : Nat) : Int)])) 172]) w glob)
    (hh : Pre w [cel sb (R.map W4 ++ (W.map B ++ [I ((n : Nat) : Int)])) 172]) :
    Spec Tryd.prog 100 [.pointer (some ⟨sb, 0, none⟩)] w [cel sb (R.map W4 ++ (W.map B ++ [I ((n : Nat) : Int)])) 172] (fun _ : Unit => True) (fun _ => Ag (sumL l)) (fun _ => []) := by
  refine spec_of (n := 56) Tryd.func100 rfl rfl hh.1 hh.2 rfl ?_
  subst hn
  have hR8 := hS.1
  have hW8 := hS.2.1
  refine tk_seq ?_
  refine tk_region ?_
  refine tk_act rfl ?_; refine a_allocL (cs := (List.replicate 32 0).map B) (by kernel_rfl) rfl fun b2 => ?_
  refine tk_nil ?_
  refine tk_then ?_
  refine tk_seq ?_
  refine tk_region ?_
  refine tk_q rfl rfl rfl (y_move rfl) ?_
  refine tk_q rfl rfl rfl (y_nilCheck rfl) ?_
  refine tk_q rfl rfl rfl (y_fldN (o := 0) 72 rfl (by kernel_rfl)) ?_
  refine tk_q rfl rfl rfl (y_load rfl rfl (hc (o := 72) (.tail _ (.head _)) (gA (k := 8) (i := 64) lenP (by omega) (gA (k := 64) (i := 0) lenP (by omega) (rfl))))) ?_
  refine tk_q rfl rfl rfl (y_convi64 (m := l.length) rfl rfl rfl (wrap_u64 (by omega))) ?_
  refine tk_q rfl rfl rfl (y_shlU (a := l.length) (m := 3) rfl rfl (by decide) (by omega)) ?_
  refine tk_q rfl rfl rfl (y_assign rfl) ?_
  refine tk_nil ?_
  refine tk_then ?_
  refine tk_seq ?_
  refine tk_region ?_
  refine tk_q rfl rfl rfl (y_move rfl) ?_
  refine tk_act rfl ?_; refine a_slitN (vs := [B 128]) rfl (List.forall_mem_cons.2 ⟨rfl, (fun _ h => nomatch h)⟩) (EL26) rfl rfl (by decide) fun b14 => ?_
  refine tk_act rfl ?_
  refine tk_perm _ (.trans (.cons _ (.trans (.cons _ (List.Perm.refl _)) (.swap _ _ _))) (.swap _ _ _)) ?_
  refine a_callv [] _ rfl (by kernel_rfl) rfl (fun w' hw' => take_spec (l := l) (m := [128]) (n := l.length) hS (Ro.cel (b := b14) (o := 0) (m := 1) (cp := 1) (vs := [128].map B) hw' (.head _) (rfl) (by first | rfl | (simp; done) | (simp; omega)) (by first | omega | (simp; done) | (simp; omega))) lenP lenP (hg.call hw') (St.pre hw')) rfl fun ⟨R0, W0⟩ hS0 => ?_
  dsimp only at hS0 ⊢
  refine tk_nil ?_
  refine tk_then ?_
  refine tk_seq ?_
  refine tk_block ?_
  refine tk_H [cel sb (R0.map W4 ++ (W0.map B ++ ([I ((l.length + 1 + 0 : Nat) : Int)]))) 172, cel b14 ([B 128]) 5, cel b2 ((List.replicate 32 0).map B) 22] (congrArg (fun z_ => [cel sb z_ 172, cel b14 ([B 128]) 5, cel b2 ((List.replicate 32 0).map B) 22]) (show R0.map W4 ++ (W0.map B ++ ([I ((l.length + [128].length : Nat) : Int)])) = R0.map W4 ++ (W0.map B ++ ([I ((l.length + 1 + 0 : Nat) : Int)])) from by simp)) ?_
  refine tk_loop (X := Nat × List UInt32 × List UInt8) (fun (j, Rj, Wj) => j ≤ zc l.length ∧ SI (l ++ [128] ++ List.replicate j 0) Rj Wj) (fun (j, Rj, Wj) => [(0, .pointer (some ⟨sb, 0, none⟩)), (2, .pointer (some ⟨b2, 0, none⟩)), (3, .int .u64 ((l.length * 2 ^ 3 : Nat) : Int))]) (fun (j, Rj, Wj) => [cel sb (Rj.map W4 ++ (Wj.map B ++ ([I ((l.length + 1 + j : Nat) : Int)]))) 172, cel b2 ((List.replicate 32 0).map B) 22]) (fun (j, Rj, Wj) => zc l.length - j) ((0, R0, W0)) (⟨Nat.zero_le _, by simpa using hS0⟩) (by repeat (first | exact trivial | refine ⟨rfl, ?_⟩)) ((.cons_cons _ (.cons _ (List.Sublist.refl _)))) ?_
  rintro ⟨j, Rj, Wj⟩ hI
  try dsimp only at hI ⊢
  have hR8 := hI.2.1
  have hW64 := hI.2.2.1
  have hz := zc_def l.length
  refine tk_seq ?_
  refine tk_seq ?_
  refine tk_region ?_
  refine tk_q rfl rfl rfl (y_move rfl) ?_
  refine tk_q rfl rfl rfl (y_nilCheck rfl) ?_
  refine tk_q rfl rfl rfl (y_fldN (o := 0) 72 rfl (by kernel_rfl)) ?_
  refine tk_q rfl rfl rfl (y_load rfl rfl (hc (o := 72) (.head _) (gA (k := 8) (i := 64) lenP (by omega) (gA (k := 64) (i := 0) lenP (by omega) (rfl))))) ?_
  refine tk_q rfl rfl rfl (y_remN (a := l.length + 1 + j) (b := 64) rfl rfl (by omega)) ?_
  refine tk_q rfl rfl rfl (y_neq rfl rfl) ?_
  refine tk_nil ?_
  refine tk_then ?_
  refine tk_condP rfl (fun ht21 => ?_) (fun ht21 => ?_)
  · skip
    refine tk_skip ?_
    refine tk_then ?_
    refine tk_block ?_
    refine tk_region ?_
    refine tk_q rfl rfl rfl (y_move rfl) ?_
    refine tk_act rfl ?_; refine a_slitN (vs := [B 0]) rfl (List.forall_mem_cons.2 ⟨rfl, (fun _ h => nomatch h)⟩) (EL26) rfl rfl (by decide) fun b23 => ?_
    refine tk_act rfl ?_
    refine tk_perm _ (.trans (.cons _ (List.Perm.refl _)) (.swap _ _ _)) ?_
    refine a_callv [] _ rfl (by kernel_rfl) rfl (fun w' hw' => take_spec (l := l ++ [128] ++ List.replicate j 0) (m := [0]) (n := l.length + 1 + j) hI.2 (Ro.cel (b := b23) (o := 0) (m := 1) (cp := 1) (vs := [0].map B) hw' (.head _) (rfl) (by first | rfl | (simp; done) | (simp; omega)) (by first | omega | (simp; done) | (simp; omega))) lenP lenP (hg.call hw') (St.pre hw')) rfl fun ⟨R1, W1⟩ hS1 => ?_
    dsimp only at hS1 ⊢
    refine tk_nil ?_
    refine tk_in_normal ?_
    refine tk_H [cel sb (R1.map W4 ++ (W1.map B ++ ([I ((l.length + 1 + (j + 1) : Nat) : Int)]))) 172, cel b23 ([B 0]) 5, cel b2 ((List.replicate 32 0).map B) 22] (congrArg (fun z_ => [cel sb z_ 172, cel b23 ([B 0]) 5, cel b2 ((List.replicate 32 0).map B) 22]) (show R1.map W4 ++ (W1.map B ++ ([I (((l ++ [128] ++ List.replicate j 0).length + [0].length : Nat) : Int)])) = R1.map W4 ++ (W1.map B ++ ([I ((l.length + 1 + (j + 1) : Nat) : Int)])) from by simp; omega)) ?_
    exact tk_again ((j + 1, R1, W1)) (⟨by omega, by rw [List.replicate_succ', ← List.append_assoc]; exact hS1⟩) (by have h0 := ht21; dsimp only; omega) (by repeat (first | exact trivial | refine ⟨rfl, ?_⟩)) (.cons_cons _ (.cons _ (List.Sublist.refl _)))
  · skip
    refine tk_exit ?_
    refine tk_then_exit ?_
    refine tk_then_exit ?_
    refine tk_in_hit ?_
    refine tk_then ?_
    refine tk_seq ?_
    refine tk_seq ?_
    refine tk_region ?_
    refine tk_q rfl rfl rfl (y_assign rfl) ?_
    refine tk_nil ?_
    refine tk_then ?_
    refine tk_block ?_
    have hj : j = zc l.length := by omega
    refine tk_H [cel sb (Rj.map W4 ++ (Wj.map B ++ ([I ((l.length + 1 + zc l.length + 0 : Nat) : Int)]))) 172, cel b2 ((List.replicate 32 0).map B) 22] (congrArg (fun z_ => [cel sb z_ 172, cel b2 ((List.replicate 32 0).map B) 22]) (show Rj.map W4 ++ (Wj.map B ++ ([I ((l.length + 1 + j : Nat) : Int)])) = Rj.map W4 ++ (Wj.map B ++ ([I ((l.length + 1 + zc l.length + 0 : Nat) : Int)])) from by rw [hj]; rfl)) ?_
    refine tk_loop (X := Nat × List UInt32 × List UInt8) (fun (j, Rj, Wj) => j ≤ 8 ∧ SI (l ++ [128] ++ List.replicate (zc l.length) 0 ++ len8 l.length j) Rj Wj) (fun (j, Rj, Wj) => [(0, .pointer (some ⟨sb, 0, none⟩)), (2, .pointer (some ⟨b2, 0, none⟩)), (3, .int .u64 ((l.length * 2 ^ 3 : Nat) : Int)), (4, I (56 - 8 * (j : Int)))]) (fun (j, Rj, Wj) => [cel sb (Rj.map W4 ++ (Wj.map B ++ ([I ((l.length + 1 + zc l.length + j : Nat) : Int)]))) 172, cel b2 ((List.replicate 32 0).map B) 22]) (fun (j, Rj, Wj) => 8 - j) ((0, Rj, Wj)) (⟨Nat.zero_le _, by have h := hI.2; rw [hj] at h; rw [len8_0, List.append_nil]; exact h⟩) (by repeat (first | exact trivial | refine ⟨rfl, ?_⟩)) ((List.Sublist.refl _)) ?_
    rintro ⟨j, Rj, Wj⟩ hI
    try dsimp only at hI ⊢
    have hR8 := hI.2.1
    have hW64 := hI.2.2.1
    have hz := zc_lt l.length
    refine tk_seq ?_
    refine tk_seq ?_
    refine tk_region ?_
    refine tk_q rfl rfl rfl (y_move rfl) ?_
    refine tk_q rfl rfl rfl (y_geq rfl rfl) ?_
    refine tk_nil ?_
    refine tk_then ?_
    refine tk_condP rfl (fun ht26 => ?_) (fun ht26 => ?_)
    · skip
      refine tk_skip ?_
      refine tk_then ?_
      refine tk_seq ?_
      refine tk_block ?_
      refine tk_region ?_
      refine tk_re 4 (I (56 - 8 * (j : Int))) (I ((56 - 8 * j : Nat) : Int)) rfl (congrArg I (by omega)) ?_
      refine tk_q rfl rfl rfl (y_move rfl) ?_
      refine tk_q rfl rfl rfl (y_move rfl) ?_
      refine tk_q rfl rfl rfl (y_move rfl) ?_
      refine tk_q rfl rfl rfl (y_shrN (a := l.length * 2 ^ 3) (m := 56 - 8 * j) rfl rfl (by simp [IntKind.bits]; omega)) ?_
      refine tk_q rfl rfl rfl (y_convi8 (m := (l.length * 2 ^ 3) / 2 ^ (56 - 8 * j)) rfl rfl rfl) ?_
      refine tk_act rfl ?_; refine a_slitN (vs := [B (UInt8.ofNat ((l.length * 2 ^ 3) / 2 ^ (56 - 8 * j)))]) rfl (List.forall_mem_cons.2 ⟨rfl, (fun _ h => nomatch h)⟩) (EL26) rfl rfl (by decide) fun b34 => ?_
      refine tk_act rfl ?_
      refine tk_perm _ (.trans (.cons _ (List.Perm.refl _)) (.swap _ _ _)) ?_
      refine a_callv [] _ rfl (by kernel_rfl) rfl (fun w' hw' => take_spec (l := l ++ [128] ++ List.replicate (zc l.length) 0 ++ len8 l.length j) (m := [UInt8.ofNat ((l.length * 2 ^ 3) / 2 ^ (56 - 8 * j))]) (n := l.length + 1 + zc l.length + j) hI.2 (Ro.cel (b := b34) (o := 0) (m := 1) (cp := 1) (vs := [UInt8.ofNat ((l.length * 2 ^ 3) / 2 ^ (56 - 8 * j))].map B) hw' (.head _) (rfl) (by first | rfl | (simp; done) | (simp; omega)) (by first | omega | (simp; done) | (simp; omega))) lenP lenP (hg.call hw') (St.pre hw')) rfl fun ⟨R2, W2⟩ hS2 => ?_
      dsimp only at hS2 ⊢
      refine tk_nil ?_
      refine tk_in_normal ?_
      refine tk_then ?_
      refine tk_region ?_
      refine tk_re 4 (I ((56 - 8 * j : Nat) : Int)) (I (56 - 8 * (j : Int))) rfl (congrArg I (by omega)) ?_
      refine tk_q rfl rfl rfl (y_move rfl) ?_
      refine tk_q rfl rfl rfl (y_subI rfl rfl (by omega)) ?_
      refine tk_q rfl rfl rfl (y_assign rfl) ?_
      refine tk_nil ?_
      refine tk_re 4 (I ((56 - 8 * (j : Int)) - (8 : Int))) (I (56 - 8 * ((j + 1 : Nat) : Int))) rfl (congrArg I (by omega)) ?_
      refine tk_H [cel sb (R2.map W4 ++ (W2.map B ++ ([I ((l.length + 1 + zc l.length + (j + 1) : Nat) : Int)]))) 172, cel b34 ([B (UInt8.ofNat ((l.length * 2 ^ 3) / 2 ^ (56 - 8 * j)))]) 5, cel b2 ((List.replicate 32 0).map B) 22] (congrArg (fun z_ => [cel sb z_ 172, cel b34 ([B (UInt8.ofNat ((l.length * 2 ^ 3) / 2 ^ (56 - 8 * j)))]) 5, cel b2 ((List.replicate 32 0).map B) 22]) (show R2.map W4 ++ (W2.map B ++ ([I (((l ++ [128] ++ List.replicate (zc l.length) 0 ++ len8 l.length j).length + [UInt8.ofNat ((l.length * 2 ^ 3) / 2 ^ (56 - 8 * j))].length : Nat) : Int)])) = R2.map W4 ++ (W2.map B ++ ([I ((l.length + 1 + zc l.length + (j + 1) : Nat) : Int)])) from by simp; omega)) ?_
      exact tk_again ((j + 1, R2, W2)) (⟨by omega, by rw [← len8_snoc, ← List.append_assoc]; exact hS2⟩) (by dsimp only; omega) (by repeat (first | exact trivial | refine ⟨rfl, ?_⟩)) (.cons_cons _ (.cons _ (List.Sublist.refl _)))
    · skip
      have hE : SI (pad l) Rj Wj := by have h := hI.2; rw [show j = 8 by omega] at h; exact h
      refine tk_exit ?_
      refine tk_then_exit ?_
      refine tk_then_exit ?_
      refine tk_in_hit ?_
      refine tk_then ?_
      refine tk_seq ?_
      refine tk_region ?_
      refine tk_act rfl ?_; refine a_allocL (cs := (List.replicate 32 0).map B) (by kernel_rfl) rfl fun b5 => ?_
      refine tk_nil ?_
      refine tk_then ?_
      refine tk_seq ?_
      refine tk_seq ?_
      refine tk_region ?_
      refine tk_q rfl rfl rfl (y_move rfl) ?_
      refine tk_nil ?_
      refine tk_then ?_
      refine tk_block ?_
      refine tk_H [cel b5 ((takeZ (outB Rj) 32 0).map B) 22, cel sb (Rj.map W4 ++ (Wj.map B ++ ([I ((l.length + 1 + zc l.length + j : Nat) : Int)]))) 172, cel b2 ((List.replicate 32 0).map B) 22] (congrArg (fun z_ => [cel b5 z_ 22, cel sb (Rj.map W4 ++ (Wj.map B ++ ([I ((l.length + 1 + zc l.length + j : Nat) : Int)]))) 172, cel b2 ((List.replicate 32 0).map B) 22]) (show (List.replicate 32 0).map B = (takeZ (outB Rj) 32 0).map B from by rw [takeZ_0])) ?_
      refine tk_loop (X := Nat) (fun i => i ≤ 32) (fun i => [(0, .pointer (some ⟨sb, 0, none⟩)), (2, .pointer (some ⟨b2, 0, none⟩)), (5, .pointer (some ⟨b5, 0, none⟩)), (36, I ((i : Nat) : Int))]) (fun i => [cel b5 ((takeZ (outB Rj) 32 i).map B) 22, cel sb (Rj.map W4 ++ (Wj.map B ++ ([I ((l.length + 1 + zc l.length + j : Nat) : Int)]))) 172, cel b2 ((List.replicate 32 0).map B) 22]) (fun i => 32 - i) (0) (by first | exact trivial | omega | (dsimp only; omega)) (by repeat (first | exact trivial | refine ⟨rfl, ?_⟩)) ((List.Sublist.refl _)) ?_
      rintro i hI
      try dsimp only at hI ⊢
      have hz : (takeZ (outB Rj) 32 i).length = 32 := takeZ_len outB_len (by omega)
      refine tk_seq ?_
      refine tk_region ?_
      refine tk_q rfl rfl rfl (y_lss rfl rfl) ?_
      refine tk_nil ?_
      refine tk_then ?_
      refine tk_seq ?_
      refine tk_condP rfl (fun ht37 => ?_) (fun ht37 => ?_)
      · skip
        refine tk_skip ?_
        refine tk_then ?_
        refine tk_seq ?_
        refine tk_block ?_
        refine tk_seq ?_
        refine tk_region ?_
        refine tk_q rfl rfl rfl (y_move rfl) ?_
        refine tk_q rfl rfl rfl (y_assign rfl) ?_
        refine tk_nil ?_
        refine tk_then ?_
        refine tk_region ?_
        refine tk_q rfl rfl rfl (y_move rfl) ?_
        refine tk_q rfl rfl rfl (y_move rfl) ?_
        refine tk_q rfl rfl rfl (y_move rfl) ?_
        refine tk_q rfl rfl rfl (y_quoN (a := i) (b := 4) rfl rfl (by omega)) ?_
        refine tk_q rfl rfl rfl (y_nilCheck rfl) ?_
        refine tk_q rfl rfl rfl (y_fld0 (o := 0) rfl (by kernel_rfl)) ?_
        refine tk_q rfl rfl rfl (y_ixA01 8 (i := i / 4) rfl rfl (by kernel_rfl) (by omega)) ?_
        refine tk_q rfl rfl rfl (y_load rfl rfl (hc (o := i / 4) (.tail _ (.head _)) (gM1 (d := 0) lenP))) ?_
        refine tk_q rfl rfl rfl (y_move rfl) ?_
        refine tk_q rfl rfl rfl (y_remN (a := i) (b := 4) rfl rfl (by omega)) ?_
        refine tk_q rfl rfl rfl (y_mulN (a := 8) (b := i % 4) rfl rfl (by omega)) ?_
        refine tk_q rfl rfl rfl (y_subN (a := 24) (b := 8 * (i % 4)) rfl rfl (by omega)) ?_
        refine tk_q rfl rfl rfl (y_shrW (a := Rj.getD (i / 4) 0) (m := 24 - (8 * (i % 4))) rfl rfl (by omega)) ?_
        refine tk_q rfl rfl rfl (y_convW8 (a := (Rj.getD (i / 4) 0) >>> UInt32.ofNat (24 - (8 * (i % 4)))) rfl rfl rfl) ?_
        refine tk_q rfl rfl rfl (y_ixA01 32 (i := i) rfl rfl (by kernel_rfl) (by omega)) ?_
        refine tk_act rfl ?_; refine a_storeE (H1 := []) (o := i) (v := B (((Rj.getD (i / 4) 0) >>> UInt32.ofNat (24 - (8 * (i % 4)))).toUInt8)) (cs' := ((takeZ (outB Rj) 32 i).set i (((Rj.getD (i / 4) 0) >>> UInt32.ofNat (24 - (8 * (i % 4)))).toUInt8)).map B) rfl rfl (by kernel_rfl) rfl rfl (by first | (simp; done) | (simp; omega)) (sM) ?_
        refine tk_nil ?_
        refine tk_in_normal ?_
        refine tk_then ?_
        refine tk_region ?_
        refine tk_q rfl rfl rfl (y_addN (a := i) (b := 1) rfl rfl (by omega)) ?_
        refine tk_q rfl rfl rfl (y_move rfl) ?_
        refine tk_nil ?_
        refine tk_H [cel b5 ((takeZ (outB Rj) 32 (i + 1)).map B) 22, cel sb (Rj.map W4 ++ (Wj.map B ++ ([I ((l.length + 1 + zc l.length + j : Nat) : Int)]))) 172, cel b2 ((List.replicate 32 0).map B) 22] (congrArg (fun z_ => [cel b5 z_ 22, cel sb (Rj.map W4 ++ (Wj.map B ++ ([I ((l.length + 1 + zc l.length + j : Nat) : Int)]))) 172, cel b2 ((List.replicate 32 0).map B) 22]) (show ((takeZ (outB Rj) 32 i).set i (((Rj.getD (i / 4) 0) >>> UInt32.ofNat (24 - (8 * (i % 4)))).toUInt8)).map B = (takeZ (outB Rj) 32 (i + 1)).map B from congrArg (List.map B) (outZ_set (by omega)))) ?_
        exact tk_again (i + 1) (by first | exact trivial | omega | (dsimp only; omega)) (by first | omega | (dsimp only; omega)) (by repeat (first | exact trivial | refine ⟨rfl, ?_⟩)) (List.Sublist.refl _)
      · skip
        refine tk_H [cel b5 ((sumL l).map B) 22, cel sb (Rj.map W4 ++ (Wj.map B ++ ([I ((l.length + 1 + zc l.length + j : Nat) : Int)]))) 172, cel b2 ((List.replicate 32 0).map B) 22] (congrArg (fun z_ => [cel b5 z_ 22, cel sb (Rj.map W4 ++ (Wj.map B ++ ([I ((l.length + 1 + zc l.length + j : Nat) : Int)]))) 172, cel b2 ((List.replicate 32 0).map B) 22]) (show (takeZ (outB Rj) 32 i).map B = (sumL l).map B from by rw [show i = 32 by omega, takeZ_all outB_len, sum_end hE])) ?_
        refine tk_exit ?_
        refine tk_then_exit ?_
        refine tk_then_exit ?_
        refine tk_in_hit ?_
        refine tk_then ?_
        refine tk_seq ?_
        refine tk_region ?_
        refine tk_q rfl rfl rfl (y_loadA 32 rfl (by kernel_rfl) lenP (hcw (.head _))) ?_
        refine tk_act rfl ?_; refine a_storeW (H1 := [_, _]) (vs := (sumL l).map B) 32 rfl rfl (by kernel_rfl) rfl ⟨lenP, lenP⟩ oneB ?_
        refine tk_nil ?_
        refine tk_then ?_
        refine tk_retc ?_
        exact tk_ret (()) (trivial) (.inl rfl) (rc (vs := (sumL l).map B) rfl rfl (by simp; kernel_rfl) (hcw (.tail _ (.tail _ (.head _))))) (List.nil_sublist _)
theorem of_spec {v : Value} {ps : List Sb} {L : List UInt8} {w : World} (hv : Ro (Fs []) w (rd v (ps.map Prod.fst))) (hp : ∀ p ∈ ps, Ro (Fs []) w (rdB p.1 p.2)) (hL : ps.flatMap Prod.snd = L) (hb : L.length < 1152921504606846000) (hn : ps.length < 4611686018427387904) (hg : Ro (Fs []) w glob) :
    Spec Tryd.prog 77 [v] w [] (fun _ : Unit => True) (fun _ => Ag (sumL L)) (fun _ => []) := by
  refine spec_of (n := 18) Tryd.func77 rfl rfl trivial trivial rfl ?_
  have h8 : beginL.length = 8 := rfl
  have hLl : (ps.flatMap Prod.snd).length = L.length := by rw [hL]
  refine tk_seq ?_
  refine tk_region ?_
  refine tk_act rfl ?_; refine a_allocL (cs := (List.replicate 32 0).map B) (by kernel_rfl) rfl fun b2 => ?_
  refine tk_nil ?_
  refine tk_then ?_
  refine tk_seq ?_
  refine tk_region ?_
  refine tk_q rfl rfl rfl (y_loadA (vs := beginL.map W4) 8 rfl (by kernel_rfl) rfl (fun w hw j u hj => by rw [add_w, Nat.zero_add]; exact (Ro.st (p := glob) hg hw).1 _ _ hj)) ?_
  refine tk_q rfl rfl rfl (y_build (v := .agg (beginL.map W4 ++ ((List.replicate 64 0).map B ++ ([I 0]))).toArray) (vs := [(0, .agg (beginL.map W4).toArray)]) rfl (fun _ => by kernel_rfl)) ?_
  refine tk_act rfl ?_; refine a_allocL (cs := (List.replicate 8 0).map W4 ++ ((List.replicate 64 0).map B ++ ([I 0]))) (by kernel_rfl) rfl fun b3 => ?_
  refine tk_act rfl ?_; refine a_storeW (H1 := []) (vs := beginL.map W4 ++ ((List.replicate 64 0).map B ++ ([I 0]))) 73 rfl rfl (by kernel_rfl) rfl ⟨lenP, lenP⟩ (List.forall_mem_append.2 ⟨oneW, (List.forall_mem_append.2 ⟨oneB, (List.forall_mem_cons.2 ⟨rfl, (fun _ h => nomatch h)⟩)⟩)⟩) ?_
  refine tk_nil ?_
  refine tk_then ?_
  refine tk_seq ?_
  refine tk_seq ?_
  refine tk_region ?_
  refine tk_q rfl rfl rfl (y_move rfl) ?_
  refine tk_q rfl rfl rfl (y_lenRN (n' := ps.length) rfl hv.1 rfl (by first | rfl | (rw [List.length_map]; omega) | simp)) ?_
  refine tk_q rfl rfl rfl (y_move rfl) ?_
  refine tk_nil ?_
  refine tk_then ?_
  refine tk_block ?_
  refine tk_loop (X := Nat × List UInt32 × List UInt8) (fun (j, Rj, Wj) => j ≤ ps.length ∧ SI ((ps.take j).flatMap Prod.snd) Rj Wj) (fun (j, Rj, Wj) => [(2, .pointer (some ⟨b2, 0, none⟩)), (3, .pointer (some ⟨b3, 0, none⟩)), (8, v), (9, I ((ps.length : Nat) : Int)), (10, I ((j : Nat) : Int))]) (fun (j, Rj, Wj) => [cel b3 (Rj.map W4 ++ (Wj.map B ++ ([I ((((ps.take j).flatMap Prod.snd).length : Nat) : Int)]))) 172, cel b2 ((List.replicate 32 0).map B) 22]) (fun (j, Rj, Wj) => ps.length - j) ((0, beginL, List.replicate 64 0)) (⟨Nat.zero_le _, SI_zero (by simp)⟩) (by repeat (first | exact trivial | refine ⟨rfl, ?_⟩)) ((List.Sublist.refl _)) ?_
  rintro ⟨j, Rj, Wj⟩ hI
  try dsimp only at hI ⊢
  have hR8 := hI.2.1
  have hW64 := hI.2.2.1
  have hfl : ∀ i, i < ps.length → ((ps.take i).flatMap Prod.snd).length + (ps.getD i dP).2.length ≤ (ps.flatMap Prod.snd).length := fun i hi => flat_le hi
  refine tk_seq ?_
  refine tk_region ?_
  refine tk_q rfl rfl rfl (y_lss rfl rfl) ?_
  refine tk_nil ?_
  refine tk_then ?_
  refine tk_seq ?_
  refine tk_condP rfl (fun ht11 => ?_) (fun ht11 => ?_)
  · skip
    refine tk_skip ?_
    refine tk_then ?_
    refine tk_seq ?_
    refine tk_block ?_
    refine tk_seq ?_
    refine tk_region ?_
    refine tk_q rfl rfl rfl (y_ixR (j := j) rfl rfl hv.1 lenP (by kernel_rfl)) ?_
    refine tk_q rfl rfl rfl (y_load rfl rfl (fun w hw => ((fun w hw => Ro.rd hv hw) w hw).cell (gM (f := Prod.fst) (d := dP) lenP))) ?_
    refine tk_q rfl rfl rfl (y_assign rfl) ?_
    refine tk_nil ?_
    refine tk_then ?_
    refine tk_region ?_
    refine tk_q rfl rfl rfl (y_move rfl) ?_
    have hfj := hfl j (by omega)
    refine tk_act rfl ?_; refine a_callv [] _ rfl (by kernel_rfl) rfl (fun w' hw' => take_spec (l := (ps.take j).flatMap Prod.snd) (m := (ps.getD j dP).2) (n := ((ps.take j).flatMap Prod.snd).length) hI.2 (Ro.call (hp _ (getD_mem lenP)) hw') lenP lenP (hg.call hw') (St.pre hw')) rfl fun ⟨R0, W0⟩ hS0 => ?_
    dsimp only at hS0 ⊢
    refine tk_nil ?_
    refine tk_in_normal ?_
    refine tk_then ?_
    refine tk_region ?_
    refine tk_q rfl rfl rfl (y_addN (a := j) (b := 1) rfl rfl (by omega)) ?_
    refine tk_q rfl rfl rfl (y_move rfl) ?_
    refine tk_nil ?_
    refine tk_H [cel b3 (R0.map W4 ++ (W0.map B ++ ([I ((((ps.take (j + 1)).flatMap Prod.snd).length : Nat) : Int)]))) 172, cel b2 ((List.replicate 32 0).map B) 22] (congrArg (fun z_ => [cel b3 z_ 172, cel b2 ((List.replicate 32 0).map B) 22]) (show R0.map W4 ++ (W0.map B ++ ([I ((((ps.take j).flatMap Prod.snd).length + ((ps.getD j dP).2).length : Nat) : Int)])) = R0.map W4 ++ (W0.map B ++ ([I ((((ps.take (j + 1)).flatMap Prod.snd).length : Nat) : Int)])) from by rw [flat_snoc (d := dP) (by omega), List.length_append])) ?_
    exact tk_again ((j + 1, R0, W0)) (⟨by omega, by rw [flat_snoc (by omega)]; exact hS0⟩) (by first | omega | (dsimp only; omega)) (by repeat (first | exact trivial | refine ⟨rfl, ?_⟩)) (List.Sublist.refl _)
  · skip
    have hE : SI L Rj Wj := by have h := hI.2; rw [show j = ps.length by omega, List.take_length, hL] at h; exact h
    refine tk_H [cel b3 (Rj.map W4 ++ (Wj.map B ++ ([I ((L.length : Nat) : Int)]))) 172, cel b2 ((List.replicate 32 0).map B) 22] (congrArg (fun z_ => [cel b3 z_ 172, cel b2 ((List.replicate 32 0).map B) 22]) (show Rj.map W4 ++ (Wj.map B ++ ([I ((((ps.take j).flatMap Prod.snd).length : Nat) : Int)])) = Rj.map W4 ++ (Wj.map B ++ ([I ((L.length : Nat) : Int)])) from by rw [show j = ps.length by omega, List.take_length, hL])) ?_
    refine tk_exit ?_
    refine tk_then_exit ?_
    refine tk_then_exit ?_
    refine tk_in_hit ?_
    refine tk_then ?_
    refine tk_seq ?_
    refine tk_region ?_
    refine tk_act rfl ?_; refine a_callv [] _ rfl (by kernel_rfl) rfl (fun w' hw' => end_spec (l := L) hE lenP lenP (hg.call hw') (St.pre hw')) rfl fun _ _ => ?_
    refine tk_act rfl ?_; refine a_storeW (H1 := []) (vs := (sumL L).map B) 32 rfl rfl (by kernel_rfl) rfl ⟨lenP, lenP⟩ oneB ?_
    refine tk_nil ?_
    refine tk_then ?_
    refine tk_retc ?_
    exact tk_ret (()) (trivial) (.inl rfl) (rc (vs := (sumL L).map B) rfl rfl (by simp; kernel_rfl) (hcw (.head _))) (List.nil_sublist _)
theorem keyed_spec {kv v : Value} {k : List UInt8} {ps : List Sb} {L : List UInt8} {w : World} (hk : Ro (Fs []) w (rdB kv k)) (hv : Ro (Fs []) w (rd v (ps.map Prod.fst))) (hp : ∀ p ∈ ps, Ro (Fs []) w (rdB p.1 p.2)) (hL : ps.flatMap Prod.snd = L)
    (hb : k.length < 1099511627776 ∧ L.length < 1099511627776 ∧ ps.length < 1099511627776) (hg : Ro (Fs []) w glob) :
    Spec Tryd.prog 58 [kv, v] w [] (fun _ : Unit => True) (fun _ => Ag (keyedL k L)) (fun _ => []) := by
  refine spec_of (n := 46) Tryd.func58 rfl rfl trivial trivial rfl ?_
  refine tk_seq ?_
  refine tk_region ?_
  refine tk_act rfl ?_; refine a_allocL (cs := (List.replicate 32 0).map B) (by kernel_rfl) rfl fun b4 => ?_
  refine tk_nil ?_
  refine tk_then ?_
  refine tk_seq ?_
  refine tk_seq ?_
  refine tk_region ?_
  refine tk_q rfl rfl rfl (y_move rfl) ?_
  refine tk_q rfl rfl rfl (y_lenRN (n' := k.length) rfl hk.1 rfl (by first | rfl | (rw [List.length_map]; omega) | simp)) ?_
  refine tk_q rfl rfl rfl (y_gtr rfl rfl) ?_
  refine tk_nil ?_
  refine tk_then ?_
  refine tk_condP rfl (fun ht12 => ?_) (fun ht12 => ?_)
  · skip
    have hk0 : hmKey k = sumL (k) := by unfold hmKey; rw [if_pos (by omega)]
    have hk1 : (sumL (k)).length = 32 := sumL_len
    refine tk_seq ?_
    refine tk_region ?_
    refine tk_q rfl rfl rfl (y_move rfl) ?_
    refine tk_act rfl ?_; refine a_slitN (vs := [kv]) rfl (List.forall_mem_cons.2 ⟨(RdS.one hk.1), (fun _ h => nomatch h)⟩) (EL45) rfl rfl (by decide) fun b14 => ?_
    refine tk_act rfl ?_; refine a_callv [] _ rfl (by kernel_rfl) rfl (fun w' hw' => of_spec (ps := [(kv, k)]) (L := k) (Ro.cel (vs := [kv]) hw' (.head _) (by first | rfl | simp) rfl (by decide)) (List.forall_mem_cons.2 ⟨(Ro.call (H0 := []) hk hw'), (fun _ h => nomatch h)⟩) (by simp) lenP lenP (hg.call hw')) rfl fun _ _ => ?_
    refine tk_act rfl ?_; refine a_allocL (cs := (List.replicate 32 0).map B) (by kernel_rfl) rfl fun b5 => ?_
    refine tk_act rfl ?_; refine a_storeW (H1 := []) (vs := (sumL k).map B) 32 rfl rfl (by kernel_rfl) rfl ⟨lenP, lenP⟩ oneB ?_
    refine tk_nil ?_
    refine tk_then ?_
    refine tk_region ?_
    refine tk_q rfl rfl rfl (y_cutA (m := 32) (sz := 1) rfl (by kernel_rfl)) ?_
    refine tk_q rfl rfl rfl (y_assign rfl) ?_
    refine tk_nil ?_
    refine tk_then ?_
    refine tk_seq ?_
    refine tk_region ?_
    refine tk_act rfl ?_; refine a_allocL (cs := (List.replicate 64 0).map B) (by kernel_rfl) rfl fun b6 => ?_
    refine tk_act rfl ?_; refine a_allocL (cs := (List.replicate 64 0).map B) (by kernel_rfl) rfl fun b7 => ?_
    refine tk_nil ?_
    refine tk_then ?_
    refine tk_seq ?_
    refine tk_region ?_
    refine tk_q rfl rfl rfl (y_cutA (m := 64) (sz := 1) rfl (by kernel_rfl)) ?_
    refine tk_q rfl rfl rfl (y_move rfl) ?_
    refine tk_act rfl ?_; refine a_copyR (H1 := [_]) (pre := []) (mid := (List.replicate (sumL k).length 0).map B) (post := (List.replicate (64 - (sumL k).length) 0).map B) (vs := (sumL k).map B) (us := (sumL k).map B) (cs' := (xorI (hmKey k) 54 0).map B) rfl rfl rfl (by kernel_rfl) rfl rfl (fun w hw => cel_rdE (o := 0) (m := 32) (cp := 32) (vs := (sumL k).map B) (hw.mem (.tail _ (.tail _ (.head _)))) (dsW) (by first | rfl | (simp; done) | (simp; omega)) (by first | omega | (simp; done) | (simp; omega))) (m := (sumL k).length) lenP (by rw [List.take_of_length_le (by simp)]) oneB ⟨by simp, rfl⟩ (by rw [List.nil_append, ← List.map_append, List.replicate_append_replicate]; congr 2; omega) (by rw [xorI_0 hmKey_len, List.map_append, List.nil_append, hk0]) ?_
    refine tk_nil ?_
    refine tk_then ?_
    refine tk_seq ?_
    refine tk_region ?_
    refine tk_q rfl rfl rfl (y_cutA (m := 64) (sz := 1) rfl (by kernel_rfl)) ?_
    refine tk_q rfl rfl rfl (y_move rfl) ?_
    refine tk_act rfl ?_; refine a_copyR (H1 := []) (pre := []) (mid := (List.replicate (sumL k).length 0).map B) (post := (List.replicate (64 - (sumL k).length) 0).map B) (vs := (sumL k).map B) (us := (sumL k).map B) (cs' := (xorI (hmKey k) 92 0).map B) rfl rfl rfl (by kernel_rfl) rfl rfl (fun w hw => cel_rdE (o := 0) (m := 32) (cp := 32) (vs := (sumL k).map B) (hw.mem (.tail _ (.tail _ (.head _)))) (dsW) (by first | rfl | (simp; done) | (simp; omega)) (by first | omega | (simp; done) | (simp; omega))) (m := (sumL k).length) lenP (by rw [List.take_of_length_le (by simp)]) oneB ⟨by simp, rfl⟩ (by rw [List.nil_append, ← List.map_append, List.replicate_append_replicate]; congr 2; omega) (by rw [xorI_0 hmKey_len, List.map_append, List.nil_append, hk0]) ?_
    refine tk_nil ?_
    refine tk_then ?_
    refine tk_seq ?_
    refine tk_seq ?_
    refine tk_region ?_
    refine tk_q rfl rfl rfl (y_move rfl) ?_
    refine tk_nil ?_
    refine tk_then ?_
    refine tk_block ?_
    refine tk_loop (X := Nat) (fun i => i ≤ 64) (fun i => [(1, v), (4, .pointer (some ⟨b4, 0, none⟩)), (6, .pointer (some ⟨b6, 0, none⟩)), (7, .pointer (some ⟨b7, 0, none⟩)), (23, I ((i : Nat) : Int))]) (fun i => [cel b7 ((xorI (hmKey k) 92 i).map B) 164, cel b6 ((xorI (hmKey k) 54 i).map B) 164, cel b5 ((sumL k).map B) 22, cel b14 ([kv]) 26, cel b4 ((List.replicate 32 0).map B) 22]) (fun i => 64 - i) (0) (by first | exact trivial | omega | (dsimp only; omega)) (by repeat (first | exact trivial | refine ⟨rfl, ?_⟩)) ((List.Sublist.refl _)) ?_
    rintro i hI
    try dsimp only at hI ⊢
    have hx1 : (xorI (hmKey k) 54 i).length = 64 := xorI_len
    have hx2 : (xorI (hmKey k) 92 i).length = 64 := xorI_len
    refine tk_seq ?_
    refine tk_region ?_
    refine tk_q rfl rfl rfl (y_lss rfl rfl) ?_
    refine tk_nil ?_
    refine tk_then ?_
    refine tk_seq ?_
    refine tk_condP rfl (fun ht24 => ?_) (fun ht24 => ?_)
    · skip
      refine tk_skip ?_
      refine tk_then ?_
      refine tk_seq ?_
      refine tk_block ?_
      refine tk_seq ?_
      refine tk_region ?_
      refine tk_q rfl rfl rfl (y_move rfl) ?_
      refine tk_q rfl rfl rfl (y_assign rfl) ?_
      refine tk_nil ?_
      refine tk_then ?_
      refine tk_seq ?_
      refine tk_region ?_
      refine tk_q rfl rfl rfl (y_move rfl) ?_
      refine tk_q rfl rfl rfl (y_ixA01 64 (i := i) rfl rfl (by kernel_rfl) (by omega)) ?_
      refine tk_q rfl rfl rfl (y_load rfl rfl (hc (o := i) (.tail _ (.head _)) (gM (d := 0) lenP))) ?_
      refine tk_q rfl rfl rfl (y_xor8 (a := (xorI (hmKey k) 54 i).getD i 0) (b := 54) rfl rfl) ?_
      refine tk_q rfl rfl rfl (y_ixA01 64 (i := i) rfl rfl (by kernel_rfl) (by omega)) ?_
      refine tk_act rfl ?_; refine a_storeE (H1 := [_]) (o := i) (v := B (((xorI (hmKey k) 54 i).getD i 0) ^^^ 54)) (cs' := ((xorI (hmKey k) 54 i).set i (((xorI (hmKey k) 54 i).getD i 0) ^^^ 54)).map B) rfl rfl (by kernel_rfl) rfl rfl (by first | (simp; done) | (simp; omega)) (sM) ?_
      refine tk_nil ?_
      refine tk_then ?_
      refine tk_region ?_
      refine tk_q rfl rfl rfl (y_move rfl) ?_
      refine tk_q rfl rfl rfl (y_ixA01 64 (i := i) rfl rfl (by kernel_rfl) (by omega)) ?_
      refine tk_q rfl rfl rfl (y_load rfl rfl (hc (o := i) (.head _) (gM (d := 0) lenP))) ?_
      refine tk_q rfl rfl rfl (y_xor8 (a := (xorI (hmKey k) 92 i).getD i 0) (b := 92) rfl rfl) ?_
      refine tk_q rfl rfl rfl (y_ixA01 64 (i := i) rfl rfl (by kernel_rfl) (by omega)) ?_
      refine tk_act rfl ?_; refine a_storeE (H1 := []) (o := i) (v := B (((xorI (hmKey k) 92 i).getD i 0) ^^^ 92)) (cs' := ((xorI (hmKey k) 92 i).set i (((xorI (hmKey k) 92 i).getD i 0) ^^^ 92)).map B) rfl rfl (by kernel_rfl) rfl rfl (by first | (simp; done) | (simp; omega)) (sM) ?_
      refine tk_nil ?_
      refine tk_in_normal ?_
      refine tk_then ?_
      refine tk_region ?_
      refine tk_q rfl rfl rfl (y_addN (a := i) (b := 1) rfl rfl (by omega)) ?_
      refine tk_q rfl rfl rfl (y_move rfl) ?_
      refine tk_nil ?_
      refine tk_H [cel b7 (((xorI (hmKey k) 92 i).set i (((xorI (hmKey k) 92 i).getD i 0) ^^^ 92)).map B) 164, cel b6 ((xorI (hmKey k) 54 (i + 1)).map B) 164, cel b5 ((sumL k).map B) 22, cel b14 ([kv]) 26, cel b4 ((List.replicate 32 0).map B) 22] (congrArg (fun z_ => [cel b7 (((xorI (hmKey k) 92 i).set i (((xorI (hmKey k) 92 i).getD i 0) ^^^ 92)).map B) 164, cel b6 z_ 164, cel b5 ((sumL k).map B) 22, cel b14 ([kv]) 26, cel b4 ((List.replicate 32 0).map B) 22]) (show ((xorI (hmKey k) 54 i).set i (((xorI (hmKey k) 54 i).getD i 0) ^^^ 54)).map B = (xorI (hmKey k) 54 (i + 1)).map B from congrArg (List.map B) (xorI_set (by omega)))) ?_
      refine tk_H [cel b7 ((xorI (hmKey k) 92 (i + 1)).map B) 164, cel b6 ((xorI (hmKey k) 54 (i + 1)).map B) 164, cel b5 ((sumL k).map B) 22, cel b14 ([kv]) 26, cel b4 ((List.replicate 32 0).map B) 22] (congrArg (fun z_ => [cel b7 z_ 164, cel b6 ((xorI (hmKey k) 54 (i + 1)).map B) 164, cel b5 ((sumL k).map B) 22, cel b14 ([kv]) 26, cel b4 ((List.replicate 32 0).map B) 22]) (show ((xorI (hmKey k) 92 i).set i (((xorI (hmKey k) 92 i).getD i 0) ^^^ 92)).map B = (xorI (hmKey k) 92 (i + 1)).map B from congrArg (List.map B) (xorI_set (by omega)))) ?_
      exact tk_again (i + 1) (by first | exact trivial | omega | (dsimp only; omega)) (by first | omega | (dsimp only; omega)) (by repeat (first | exact trivial | refine ⟨rfl, ?_⟩)) (List.Sublist.refl _)
    · skip
      refine tk_H [cel b7 ((xorI (hmKey k) 92 i).map B) 164, cel b6 ((xorPad (hmKey k) 54).map B) 164, cel b5 ((sumL k).map B) 22, cel b14 ([kv]) 26, cel b4 ((List.replicate 32 0).map B) 22] (congrArg (fun z_ => [cel b7 ((xorI (hmKey k) 92 i).map B) 164, cel b6 z_ 164, cel b5 ((sumL k).map B) 22, cel b14 ([kv]) 26, cel b4 ((List.replicate 32 0).map B) 22]) (show (xorI (hmKey k) 54 i).map B = (xorPad (hmKey k) 54).map B from by rw [show i = 64 by omega, xorI_64])) ?_
      refine tk_H [cel b7 ((xorPad (hmKey k) 92).map B) 164, cel b6 ((xorPad (hmKey k) 54).map B) 164, cel b5 ((sumL k).map B) 22, cel b14 ([kv]) 26, cel b4 ((List.replicate 32 0).map B) 22] (congrArg (fun z_ => [cel b7 z_ 164, cel b6 ((xorPad (hmKey k) 54).map B) 164, cel b5 ((sumL k).map B) 22, cel b14 ([kv]) 26, cel b4 ((List.replicate 32 0).map B) 22]) (show (xorI (hmKey k) 92 i).map B = (xorPad (hmKey k) 92).map B from by rw [show i = 64 by omega, xorI_64])) ?_
      refine tk_exit ?_
      refine tk_then_exit ?_
      refine tk_then_exit ?_
      refine tk_in_hit ?_
      refine tk_then ?_
      refine tk_seq ?_
      refine tk_region ?_
      refine tk_q rfl rfl rfl (y_cutA (m := 64) (sz := 1) rfl (by kernel_rfl)) ?_
      refine tk_act rfl ?_; refine a_slitN (vs := [.slice (some ⟨b6, 0, none⟩) 64 64]) rfl (List.forall_mem_cons.2 ⟨rfl, (fun _ h => nomatch h)⟩) (EL45) rfl rfl (by decide) fun b38 => ?_
      refine tk_q rfl rfl rfl (y_move rfl) ?_
      refine tk_celOwn (H1 := []) (e := 26) (n := 1) rfl (by simp) (by simp [maxLen]) ?_
      refine tk_act rfl ?_; refine a_appendR (H1 := []) (n := 1) (xs := [.slice (some ⟨b6, 0, none⟩) 64 64]) (news := ps.map Prod.fst) rfl rfl EL45 rfl rfl (fun w hw => Ro.rd hv hw) (by intro u hu; obtain ⟨p, hp1, rfl⟩ := List.mem_map.1 hu; exact (hp p hp1).1.one) lenP fun v40 => ?_
      refine tk_act rfl ?_; refine a_callv [] _ rfl (by kernel_rfl) rfl (fun w' hw' => of_spec (ps := (.slice (some ⟨b6, 0, none⟩) 64 64, xorPad (hmKey k) 54) :: ps) (L := xorPad (hmKey k) 54 ++ L) (Ro.own (H0 := []) (n := 1 + (ps.map Prod.fst).length) hw' (.head _)) (List.forall_mem_cons.2 ⟨(Ro.cel (H0 := []) (b := b6) (o := 0) (m := 64) (cp := 64) (vs := (xorPad (hmKey k) 54).map B) hw' (.tail _ (.tail _ (.head _))) (dsW) (by first | rfl | (simp; done) | (simp; omega)) (by first | omega | (simp; done) | (simp; omega))), fun p hp0 => (hp p hp0).call hw'⟩) (by simp [hL]) lenP (by simp; omega) (hg.call hw')) rfl fun _ _ => ?_
      refine tk_act rfl ?_; refine a_allocL (cs := (List.replicate 32 0).map B) (by kernel_rfl) rfl fun b9 => ?_
      refine tk_act rfl ?_; refine a_storeW (H1 := []) (vs := (sumL (xorPad (hmKey k) 54 ++ L)).map B) 32 rfl rfl (by kernel_rfl) rfl ⟨lenP, lenP⟩ oneB ?_
      refine tk_nil ?_
      refine tk_then ?_
      refine tk_seq ?_
      refine tk_drawH [cel b9 ((sumL (xorPad (hmKey k) 54 ++ L)).map B) 22, own v40 (1 + (ps.map Prod.fst).length) ([.slice (some ⟨b6, 0, none⟩) 64 64] ++ ps.map Prod.fst) 26 1, cel b7 ((xorPad (hmKey k) 92).map B) 164, cel b6 ((xorPad (hmKey k) 54).map B) 164, cel b5 ((sumL k).map B) 22, cel b14 ([kv]) 26] [] (by kernel_rfl) ?_
      refine tx_q 0 rfl (by kernel_rfl) rfl rfl rfl (fun _ _ _ h => h) (y_cutA (m := 64) (sz := 1) rfl (by kernel_rfl)) ?_
      refine tx_q 1 rfl (by kernel_rfl) rfl rfl rfl (fun _ _ _ h => h) (y_cutA (m := 32) (sz := 1) rfl (by kernel_rfl)) ?_
      refine tx_a 2 rfl (by kernel_rfl) rfl ?_; refine a_slitN (vs := [.slice (some ⟨b7, 0, none⟩) 64 64, .slice (some ⟨b9, 0, none⟩) 32 32]) rfl (List.forall_mem_cons.2 ⟨rfl, (List.forall_mem_cons.2 ⟨rfl, (fun _ h => nomatch h)⟩)⟩) (EL45) rfl rfl (by decide) fun b44 => ?_
      refine tk_S (fun _ h => h.sub (.cons _ (.cons_cons _ (.cons_cons _ (.cons_cons _ (.cons_cons _ (.cons_cons _ (.cons_cons _ (List.nil_sublist _))))))))) ?_
      refine tx_more [cel b44 ([Value.slice (some ⟨b7, 0, none⟩) 64 64, .slice (some ⟨b9, 0, none⟩) 32 32]) 26, cel b9 ((sumL (xorPad (hmKey k) 54 ++ L)).map B) 22, own v40 (1 + (ps.map Prod.fst).length) ([.slice (some ⟨b6, 0, none⟩) 64 64] ++ ps.map Prod.fst) 26 1, cel b7 ((xorPad (hmKey k) 92).map B) 164, cel b6 ((xorPad (hmKey k) 54).map B) 164, cel b5 ((sumL k).map B) 22, cel b14 ([kv]) 26] (fun _ h => h.sub (.cons _ (List.Sublist.refl _))) (fun _ h => h.sub (.cons_cons _ (.cons_cons _ (.cons_cons _ (.cons_cons _ (.cons_cons _ (.cons_cons _ (.cons_cons _ (List.nil_sublist _))))))))) ?_
      refine tx_a 3 rfl (by kernel_rfl) rfl ?_; refine a_callv [] _ rfl (by kernel_rfl) rfl (fun w' hw' => of_spec (ps := [(.slice (some ⟨b7, 0, none⟩) 64 64, xorPad (hmKey k) 92), (.slice (some ⟨b9, 0, none⟩) 32 32, sumL (xorPad (hmKey k) 54 ++ L))]) (L := (xorPad (hmKey k) 92) ++ (sumL (xorPad (hmKey k) 54 ++ L))) (Ro.cel (vs := [.slice (some ⟨b7, 0, none⟩) 64 64, .slice (some ⟨b9, 0, none⟩) 32 32]) hw' (.head _) (by first | rfl | simp) rfl (by decide)) (List.forall_mem_cons.2 ⟨(Ro.cel (H0 := []) (b := b7) (o := 0) (m := 64) (cp := 64) (vs := (xorPad (hmKey k) 92).map B) hw' (.tail _ (.tail _ (.tail _ (.head _)))) (dsW) (by first | rfl | (simp; done) | (simp; omega)) (by first | omega | (simp; done) | (simp; omega))), (List.forall_mem_cons.2 ⟨(Ro.cel (H0 := []) (b := b9) (o := 0) (m := 32) (cp := 32) (vs := (sumL (xorPad (hmKey k) 54 ++ L)).map B) hw' (.tail _ (.head _)) (dsW) (by first | rfl | (simp; done) | (simp; omega)) (by first | omega | (simp; done) | (simp; omega))), (fun _ h => nomatch h)⟩)⟩) (by simp) lenP lenP (hg.call hw')) rfl fun _ _ => ?_
      refine tk_S (fun _ h => h.sub (.cons_cons _ (.cons_cons _ (.cons_cons _ (.cons_cons _ (.cons_cons _ (.cons_cons _ (.cons_cons _ (List.nil_sublist _))))))))) ?_
      refine tk_re 45 (.agg ((sumL ((xorPad (hmKey k) 92) ++ (sumL (xorPad (hmKey k) 54 ++ L)))).map B).toArray) (.agg ((keyedL k L).map B).toArray) rfl (by simp only [keyedL]) ?_
      refine tx_a 4 rfl (by kernel_rfl) rfl ?_; refine a_storeW (H1 := [_, _, _, _, _, _, _]) (vs := (keyedL k L).map B) 32 rfl rfl (by kernel_rfl) rfl ⟨lenP, lenP⟩ oneB ?_
      refine tk_S (fun _ h => h.sub (.cons_cons _ (.cons_cons _ (.cons_cons _ (.cons_cons _ (.cons_cons _ (.cons_cons _ (.cons_cons _ (List.nil_sublist _))))))))) ?_
      refine tx_done (by kernel_rfl) ?_
      refine tk_then ?_
      refine tk_retc ?_
      exact tk_ret (()) (trivial) (.inl rfl) (rc (vs := (keyedL k L).map B) rfl rfl (by simp; kernel_rfl) (hcw (.tail _ (.tail _ (.tail _ (.tail _ (.tail _ (.tail _ (.tail _ (.head _)))))))))) (List.nil_sublist _)
  · skip
    have hk0 : hmKey k = k := by unfold hmKey; rw [if_neg (by omega)]
    refine tk_skip ?_
    refine tk_then ?_
    refine tk_seq ?_
    refine tk_region ?_
    refine tk_act rfl ?_; refine a_allocL (cs := (List.replicate 64 0).map B) (by kernel_rfl) rfl fun b6 => ?_
    refine tk_act rfl ?_; refine a_allocL (cs := (List.replicate 64 0).map B) (by kernel_rfl) rfl fun b7 => ?_
    refine tk_nil ?_
    refine tk_then ?_
    refine tk_seq ?_
    refine tk_region ?_
    refine tk_q rfl rfl rfl (y_cutA (m := 64) (sz := 1) rfl (by kernel_rfl)) ?_
    refine tk_q rfl rfl rfl (y_move rfl) ?_
    refine tk_act rfl ?_; refine a_copyR (H1 := [_]) (pre := []) (mid := (List.replicate (k).length 0).map B) (post := (List.replicate (64 - (k).length) 0).map B) (vs := (k).map B) (us := (k).map B) (cs' := (xorI (hmKey k) 54 0).map B) rfl rfl rfl (by kernel_rfl) rfl rfl (fun w hw => Ro.rd hk hw) (m := (k).length) lenP (by rw [List.take_of_length_le (by simp)]) oneB ⟨by simp, rfl⟩ (by rw [List.nil_append, ← List.map_append, List.replicate_append_replicate]; congr 2; omega) (by rw [xorI_0 hmKey_len, List.map_append, List.nil_append, hk0]) ?_
    refine tk_nil ?_
    refine tk_then ?_
    refine tk_seq ?_
    refine tk_region ?_
    refine tk_q rfl rfl rfl (y_cutA (m := 64) (sz := 1) rfl (by kernel_rfl)) ?_
    refine tk_q rfl rfl rfl (y_move rfl) ?_
    refine tk_act rfl ?_; refine a_copyR (H1 := []) (pre := []) (mid := (List.replicate (k).length 0).map B) (post := (List.replicate (64 - (k).length) 0).map B) (vs := (k).map B) (us := (k).map B) (cs' := (xorI (hmKey k) 92 0).map B) rfl rfl rfl (by kernel_rfl) rfl rfl (fun w hw => Ro.rd hk hw) (m := (k).length) lenP (by rw [List.take_of_length_le (by simp)]) oneB ⟨by simp, rfl⟩ (by rw [List.nil_append, ← List.map_append, List.replicate_append_replicate]; congr 2; omega) (by rw [xorI_0 hmKey_len, List.map_append, List.nil_append, hk0]) ?_
    refine tk_nil ?_
    refine tk_then ?_
    refine tk_seq ?_
    refine tk_seq ?_
    refine tk_region ?_
    refine tk_q rfl rfl rfl (y_move rfl) ?_
    refine tk_nil ?_
    refine tk_then ?_
    refine tk_block ?_
    refine tk_loop (X := Nat) (fun i => i ≤ 64) (fun i => [(1, v), (4, .pointer (some ⟨b4, 0, none⟩)), (6, .pointer (some ⟨b6, 0, none⟩)), (7, .pointer (some ⟨b7, 0, none⟩)), (23, I ((i : Nat) : Int))]) (fun i => [cel b7 ((xorI (hmKey k) 92 i).map B) 164, cel b6 ((xorI (hmKey k) 54 i).map B) 164, cel b4 ((List.replicate 32 0).map B) 22]) (fun i => 64 - i) (0) (by first | exact trivial | omega | (dsimp only; omega)) (by repeat (first | exact trivial | refine ⟨rfl, ?_⟩)) ((List.Sublist.refl _)) ?_
    rintro i hI
    try dsimp only at hI ⊢
    have hx1 : (xorI (hmKey k) 54 i).length = 64 := xorI_len
    have hx2 : (xorI (hmKey k) 92 i).length = 64 := xorI_len
    refine tk_seq ?_
    refine tk_region ?_
    refine tk_q rfl rfl rfl (y_lss rfl rfl) ?_
    refine tk_nil ?_
    refine tk_then ?_
    refine tk_seq ?_
    refine tk_condP rfl (fun ht24 => ?_) (fun ht24 => ?_)
    · skip
      refine tk_skip ?_
      refine tk_then ?_
      refine tk_seq ?_
      refine tk_block ?_
      refine tk_seq ?_
      refine tk_region ?_
      refine tk_q rfl rfl rfl (y_move rfl) ?_
      refine tk_q rfl rfl rfl (y_assign rfl) ?_
      refine tk_nil ?_
      refine tk_then ?_
      refine tk_seq ?_
      refine tk_region ?_
      refine tk_q rfl rfl rfl (y_move rfl) ?_
      refine tk_q rfl rfl rfl (y_ixA01 64 (i := i) rfl rfl (by kernel_rfl) (by omega)) ?_
      refine tk_q rfl rfl rfl (y_load rfl rfl (hc (o := i) (.tail _ (.head _)) (gM (d := 0) lenP))) ?_
      refine tk_q rfl rfl rfl (y_xor8 (a := (xorI (hmKey k) 54 i).getD i 0) (b := 54) rfl rfl) ?_
      refine tk_q rfl rfl rfl (y_ixA01 64 (i := i) rfl rfl (by kernel_rfl) (by omega)) ?_
      refine tk_act rfl ?_; refine a_storeE (H1 := [_]) (o := i) (v := B (((xorI (hmKey k) 54 i).getD i 0) ^^^ 54)) (cs' := ((xorI (hmKey k) 54 i).set i (((xorI (hmKey k) 54 i).getD i 0) ^^^ 54)).map B) rfl rfl (by kernel_rfl) rfl rfl (by first | (simp; done) | (simp; omega)) (sM) ?_
      refine tk_nil ?_
      refine tk_then ?_
      refine tk_region ?_
      refine tk_q rfl rfl rfl (y_move rfl) ?_
      refine tk_q rfl rfl rfl (y_ixA01 64 (i := i) rfl rfl (by kernel_rfl) (by omega)) ?_
      refine tk_q rfl rfl rfl (y_load rfl rfl (hc (o := i) (.head _) (gM (d := 0) lenP))) ?_
      refine tk_q rfl rfl rfl (y_xor8 (a := (xorI (hmKey k) 92 i).getD i 0) (b := 92) rfl rfl) ?_
      refine tk_q rfl rfl rfl (y_ixA01 64 (i := i) rfl rfl (by kernel_rfl) (by omega)) ?_
      refine tk_act rfl ?_; refine a_storeE (H1 := []) (o := i) (v := B (((xorI (hmKey k) 92 i).getD i 0) ^^^ 92)) (cs' := ((xorI (hmKey k) 92 i).set i (((xorI (hmKey k) 92 i).getD i 0) ^^^ 92)).map B) rfl rfl (by kernel_rfl) rfl rfl (by first | (simp; done) | (simp; omega)) (sM) ?_
      refine tk_nil ?_
      refine tk_in_normal ?_
      refine tk_then ?_
      refine tk_region ?_
      refine tk_q rfl rfl rfl (y_addN (a := i) (b := 1) rfl rfl (by omega)) ?_
      refine tk_q rfl rfl rfl (y_move rfl) ?_
      refine tk_nil ?_
      refine tk_H [cel b7 (((xorI (hmKey k) 92 i).set i (((xorI (hmKey k) 92 i).getD i 0) ^^^ 92)).map B) 164, cel b6 ((xorI (hmKey k) 54 (i + 1)).map B) 164, cel b4 ((List.replicate 32 0).map B) 22] (congrArg (fun z_ => [cel b7 (((xorI (hmKey k) 92 i).set i (((xorI (hmKey k) 92 i).getD i 0) ^^^ 92)).map B) 164, cel b6 z_ 164, cel b4 ((List.replicate 32 0).map B) 22]) (show ((xorI (hmKey k) 54 i).set i (((xorI (hmKey k) 54 i).getD i 0) ^^^ 54)).map B = (xorI (hmKey k) 54 (i + 1)).map B from congrArg (List.map B) (xorI_set (by omega)))) ?_
      refine tk_H [cel b7 ((xorI (hmKey k) 92 (i + 1)).map B) 164, cel b6 ((xorI (hmKey k) 54 (i + 1)).map B) 164, cel b4 ((List.replicate 32 0).map B) 22] (congrArg (fun z_ => [cel b7 z_ 164, cel b6 ((xorI (hmKey k) 54 (i + 1)).map B) 164, cel b4 ((List.replicate 32 0).map B) 22]) (show ((xorI (hmKey k) 92 i).set i (((xorI (hmKey k) 92 i).getD i 0) ^^^ 92)).map B = (xorI (hmKey k) 92 (i + 1)).map B from congrArg (List.map B) (xorI_set (by omega)))) ?_
      exact tk_again (i + 1) (by first | exact trivial | omega | (dsimp only; omega)) (by first | omega | (dsimp only; omega)) (by repeat (first | exact trivial | refine ⟨rfl, ?_⟩)) (List.Sublist.refl _)
    · skip
      refine tk_H [cel b7 ((xorI (hmKey k) 92 i).map B) 164, cel b6 ((xorPad (hmKey k) 54).map B) 164, cel b4 ((List.replicate 32 0).map B) 22] (congrArg (fun z_ => [cel b7 ((xorI (hmKey k) 92 i).map B) 164, cel b6 z_ 164, cel b4 ((List.replicate 32 0).map B) 22]) (show (xorI (hmKey k) 54 i).map B = (xorPad (hmKey k) 54).map B from by rw [show i = 64 by omega, xorI_64])) ?_
      refine tk_H [cel b7 ((xorPad (hmKey k) 92).map B) 164, cel b6 ((xorPad (hmKey k) 54).map B) 164, cel b4 ((List.replicate 32 0).map B) 22] (congrArg (fun z_ => [cel b7 z_ 164, cel b6 ((xorPad (hmKey k) 54).map B) 164, cel b4 ((List.replicate 32 0).map B) 22]) (show (xorI (hmKey k) 92 i).map B = (xorPad (hmKey k) 92).map B from by rw [show i = 64 by omega, xorI_64])) ?_
      refine tk_exit ?_
      refine tk_then_exit ?_
      refine tk_then_exit ?_
      refine tk_in_hit ?_
      refine tk_then ?_
      refine tk_seq ?_
      refine tk_region ?_
      refine tk_q rfl rfl rfl (y_cutA (m := 64) (sz := 1) rfl (by kernel_rfl)) ?_
      refine tk_act rfl ?_; refine a_slitN (vs := [.slice (some ⟨b6, 0, none⟩) 64 64]) rfl (List.forall_mem_cons.2 ⟨rfl, (fun _ h => nomatch h)⟩) (EL45) rfl rfl (by decide) fun b38 => ?_
      refine tk_q rfl rfl rfl (y_move rfl) ?_
      refine tk_celOwn (H1 := []) (e := 26) (n := 1) rfl (by simp) (by simp [maxLen]) ?_
      refine tk_act rfl ?_; refine a_appendR (H1 := []) (n := 1) (xs := [.slice (some ⟨b6, 0, none⟩) 64 64]) (news := ps.map Prod.fst) rfl rfl EL45 rfl rfl (fun w hw => Ro.rd hv hw) (by intro u hu; obtain ⟨p, hp1, rfl⟩ := List.mem_map.1 hu; exact (hp p hp1).1.one) lenP fun v40 => ?_
      refine tk_act rfl ?_; refine a_callv [] _ rfl (by kernel_rfl) rfl (fun w' hw' => of_spec (ps := (.slice (some ⟨b6, 0, none⟩) 64 64, xorPad (hmKey k) 54) :: ps) (L := xorPad (hmKey k) 54 ++ L) (Ro.own (H0 := []) (n := 1 + (ps.map Prod.fst).length) hw' (.head _)) (List.forall_mem_cons.2 ⟨(Ro.cel (H0 := []) (b := b6) (o := 0) (m := 64) (cp := 64) (vs := (xorPad (hmKey k) 54).map B) hw' (.tail _ (.tail _ (.head _))) (dsW) (by first | rfl | (simp; done) | (simp; omega)) (by first | omega | (simp; done) | (simp; omega))), fun p hp0 => (hp p hp0).call hw'⟩) (by simp [hL]) lenP (by simp; omega) (hg.call hw')) rfl fun _ _ => ?_
      refine tk_act rfl ?_; refine a_allocL (cs := (List.replicate 32 0).map B) (by kernel_rfl) rfl fun b9 => ?_
      refine tk_act rfl ?_; refine a_storeW (H1 := []) (vs := (sumL (xorPad (hmKey k) 54 ++ L)).map B) 32 rfl rfl (by kernel_rfl) rfl ⟨lenP, lenP⟩ oneB ?_
      refine tk_nil ?_
      refine tk_then ?_
      refine tk_seq ?_
      refine tk_drawH [cel b9 ((sumL (xorPad (hmKey k) 54 ++ L)).map B) 22, own v40 (1 + (ps.map Prod.fst).length) ([.slice (some ⟨b6, 0, none⟩) 64 64] ++ ps.map Prod.fst) 26 1, cel b7 ((xorPad (hmKey k) 92).map B) 164, cel b6 ((xorPad (hmKey k) 54).map B) 164] [] (by kernel_rfl) ?_
      refine tx_q 0 rfl (by kernel_rfl) rfl rfl rfl (fun _ _ _ h => h) (y_cutA (m := 64) (sz := 1) rfl (by kernel_rfl)) ?_
      refine tx_q 1 rfl (by kernel_rfl) rfl rfl rfl (fun _ _ _ h => h) (y_cutA (m := 32) (sz := 1) rfl (by kernel_rfl)) ?_
      refine tx_a 2 rfl (by kernel_rfl) rfl ?_; refine a_slitN (vs := [.slice (some ⟨b7, 0, none⟩) 64 64, .slice (some ⟨b9, 0, none⟩) 32 32]) rfl (List.forall_mem_cons.2 ⟨rfl, (List.forall_mem_cons.2 ⟨rfl, (fun _ h => nomatch h)⟩)⟩) (EL45) rfl rfl (by decide) fun b44 => ?_
      refine tk_S (fun _ h => h.sub (.cons _ (.cons_cons _ (.cons_cons _ (.cons_cons _ (.cons_cons _ (List.nil_sublist _))))))) ?_
      refine tx_more [cel b44 ([Value.slice (some ⟨b7, 0, none⟩) 64 64, .slice (some ⟨b9, 0, none⟩) 32 32]) 26, cel b9 ((sumL (xorPad (hmKey k) 54 ++ L)).map B) 22, own v40 (1 + (ps.map Prod.fst).length) ([.slice (some ⟨b6, 0, none⟩) 64 64] ++ ps.map Prod.fst) 26 1, cel b7 ((xorPad (hmKey k) 92).map B) 164, cel b6 ((xorPad (hmKey k) 54).map B) 164] (fun _ h => h.sub (.cons _ (List.Sublist.refl _))) (fun _ h => h.sub (.cons_cons _ (.cons_cons _ (.cons_cons _ (.cons_cons _ (.cons_cons _ (List.nil_sublist _))))))) ?_
      refine tx_a 3 rfl (by kernel_rfl) rfl ?_; refine a_callv [] _ rfl (by kernel_rfl) rfl (fun w' hw' => of_spec (ps := [(.slice (some ⟨b7, 0, none⟩) 64 64, xorPad (hmKey k) 92), (.slice (some ⟨b9, 0, none⟩) 32 32, sumL (xorPad (hmKey k) 54 ++ L))]) (L := (xorPad (hmKey k) 92) ++ (sumL (xorPad (hmKey k) 54 ++ L))) (Ro.cel (vs := [.slice (some ⟨b7, 0, none⟩) 64 64, .slice (some ⟨b9, 0, none⟩) 32 32]) hw' (.head _) (by first | rfl | simp) rfl (by decide)) (List.forall_mem_cons.2 ⟨(Ro.cel (H0 := []) (b := b7) (o := 0) (m := 64) (cp := 64) (vs := (xorPad (hmKey k) 92).map B) hw' (.tail _ (.tail _ (.tail _ (.head _)))) (dsW) (by first | rfl | (simp; done) | (simp; omega)) (by first | omega | (simp; done) | (simp; omega))), (List.forall_mem_cons.2 ⟨(Ro.cel (H0 := []) (b := b9) (o := 0) (m := 32) (cp := 32) (vs := (sumL (xorPad (hmKey k) 54 ++ L)).map B) hw' (.tail _ (.head _)) (dsW) (by first | rfl | (simp; done) | (simp; omega)) (by first | omega | (simp; done) | (simp; omega))), (fun _ h => nomatch h)⟩)⟩) (by simp) lenP lenP (hg.call hw')) rfl fun _ _ => ?_
      refine tk_S (fun _ h => h.sub (.cons_cons _ (.cons_cons _ (.cons_cons _ (.cons_cons _ (.cons_cons _ (List.nil_sublist _))))))) ?_
      refine tk_re 45 (.agg ((sumL ((xorPad (hmKey k) 92) ++ (sumL (xorPad (hmKey k) 54 ++ L)))).map B).toArray) (.agg ((keyedL k L).map B).toArray) rfl (by simp only [keyedL]) ?_
      refine tx_a 4 rfl (by kernel_rfl) rfl ?_; refine a_storeW (H1 := [_, _, _, _, _]) (vs := (keyedL k L).map B) 32 rfl rfl (by kernel_rfl) rfl ⟨lenP, lenP⟩ oneB ?_
      refine tk_S (fun _ h => h.sub (.cons_cons _ (.cons_cons _ (.cons_cons _ (.cons_cons _ (.cons_cons _ (List.nil_sublist _))))))) ?_
      refine tx_done (by kernel_rfl) ?_
      refine tk_then ?_
      refine tk_retc ?_
      exact tk_ret (()) (trivial) (.inl rfl) (rc (vs := (keyedL k L).map B) rfl rfl (by simp; kernel_rfl) (hcw (.tail _ (.tail _ (.tail _ (.tail _ (.tail _ (.head _)))))))) (List.nil_sublist _)
theorem same_spec {u v : Value} {l : List UInt8} {ps : List Sb} {w : World} (hu : Ro (Fs []) w (rdB u l)) (hv : Ro (Fs []) w (rd v (ps.map Prod.fst))) (hp : ∀ p ∈ ps, Ro (Fs []) w (rdB p.1 p.2)) (hb : l.length < 4611686018427387904 ∧ ps.length < 4611686018427387904) :
    Spec Tryd.prog 52 [u, v] w [] (fun _ : Unit => True) (fun _ => .bool (decide (∀ p ∈ ps, p.2 = l))) (fun _ => []) := by
  refine spec_of (n := 49) Tryd.func52 rfl rfl trivial trivial rfl ?_
  refine tk_seq ?_
  refine tk_region ?_
  refine tk_q rfl rfl rfl (y_assign rfl) ?_
  refine tk_nil ?_
  refine tk_then ?_
  refine tk_seq ?_
  refine tk_seq ?_
  refine tk_region ?_
  refine tk_q rfl rfl rfl (y_move rfl) ?_
  refine tk_q rfl rfl rfl (y_lenRN (n' := ps.length) rfl hv.1 rfl (by first | rfl | (rw [List.length_map]; omega) | simp)) ?_
  refine tk_q rfl rfl rfl (y_move rfl) ?_
  refine tk_nil ?_
  refine tk_then ?_
  refine tk_block ?_
  refine tk_loop (X := Nat) (fun j => j ≤ ps.length ∧ ∀ p ∈ ps.take j, p.2.length = l.length) (fun j => [(0, u), (1, v), (12, v), (13, I ((ps.length : Nat) : Int)), (14, I ((j : Nat) : Int))]) (fun j => []) (fun j => ps.length - j) (0) (⟨Nat.zero_le _, fun p hp => by simp at hp⟩) (by repeat (first | exact trivial | refine ⟨rfl, ?_⟩)) ((List.Sublist.refl _)) ?_
  rintro j hI
  try dsimp only at hI ⊢
  refine tk_seq ?_
  refine tk_region ?_
  refine tk_q rfl rfl rfl (y_lss rfl rfl) ?_
  refine tk_nil ?_
  refine tk_then ?_
  refine tk_seq ?_
  refine tk_condP rfl (fun ht15 => ?_) (fun ht15 => ?_)
  · skip
    refine tk_skip ?_
    refine tk_then ?_
    refine tk_seq ?_
    refine tk_block ?_
    refine tk_seq ?_
    refine tk_region ?_
    refine tk_q rfl rfl rfl (y_ixR (j := j) rfl rfl hv.1 lenP (by kernel_rfl)) ?_
    refine tk_q rfl rfl rfl (y_load rfl rfl (fun w hw => ((fun w hw => Ro.rd hv hw) w hw).cell (gM (f := Prod.fst) (d := dP) lenP))) ?_
    refine tk_q rfl rfl rfl (y_assign rfl) ?_
    refine tk_nil ?_
    refine tk_then ?_
    refine tk_seq ?_
    refine tk_region ?_
    refine tk_q rfl rfl rfl (y_move rfl) ?_
    refine tk_q rfl rfl rfl (y_lenRN (n' := ((ps.getD j dP).2).length) rfl (hp _ (getD_mem lenP)).1 rfl (by first | rfl | (rw [List.length_map]; omega) | simp)) ?_
    refine tk_q rfl rfl rfl (y_move rfl) ?_
    refine tk_q rfl rfl rfl (y_lenRN (n' := l.length) rfl hu.1 rfl (by first | rfl | (rw [List.length_map]; omega) | simp)) ?_
    refine tk_q rfl rfl rfl (y_neq rfl rfl) ?_
    refine tk_nil ?_
    refine tk_then ?_
    refine tk_condP rfl (fun ht22 => ?_) (fun ht22 => ?_)
    · skip
      refine tk_seq ?_
      refine tk_region ?_
      refine tk_q rfl rfl rfl (y_assign rfl) ?_
      refine tk_nil ?_
      refine tk_then ?_
      refine tk_retc ?_
      refine tk_in_ret ?_
      refine tk_then_ret ?_
      refine tk_then_ret ?_
      refine tk_in_ret ?_
      refine tk_then_ret ?_
      refine tk_re 4 (.bool false) (.bool (decide (∀ p ∈ ps, p.2 = l))) rfl (congrArg Value.bool (Eq.symm (decide_eq_false fun h => ht22 (by rw [h _ (getD_mem (by omega))])))) ?_
      exact tk_ret (()) (trivial) (.inl rfl) (r1 rfl rfl) (List.Sublist.refl _)
    · skip
      refine tk_skip ?_
      refine tk_in_normal ?_
      refine tk_then ?_
      refine tk_region ?_
      refine tk_q rfl rfl rfl (y_addN (a := j) (b := 1) rfl rfl (by omega)) ?_
      refine tk_q rfl rfl rfl (y_move rfl) ?_
      refine tk_nil ?_
      exact tk_again (j + 1) (⟨by omega, fun p hp0 => by rw [take_snocG (d := dP) (by omega), List.mem_append, List.mem_singleton] at hp0; rcases hp0 with h | rfl; exact hI.2 p h; omega⟩) (by first | omega | (dsimp only; omega)) (by repeat (first | exact trivial | refine ⟨rfl, ?_⟩)) (List.Sublist.refl _)
  · skip
    have hA : ∀ p ∈ ps, p.2.length = l.length := by have h := hI.2; rw [show j = ps.length by omega, List.take_length] at h; exact h
    refine tk_exit ?_
    refine tk_then_exit ?_
    refine tk_then_exit ?_
    refine tk_in_hit ?_
    refine tk_then ?_
    refine tk_seq ?_
    refine tk_region ?_
    refine tk_q rfl rfl rfl (y_assign rfl) ?_
    refine tk_nil ?_
    refine tk_then ?_
    refine tk_seq ?_
    refine tk_seq ?_
    refine tk_region ?_
    refine tk_q rfl rfl rfl (y_move rfl) ?_
    refine tk_q rfl rfl rfl (y_lenRN (n' := ps.length) rfl hv.1 rfl (by first | rfl | (rw [List.length_map]; omega) | simp)) ?_
    refine tk_q rfl rfl rfl (y_move rfl) ?_
    refine tk_nil ?_
    refine tk_then ?_
    refine tk_block ?_
    refine tk_loop (X := Nat × UInt8) (fun (j, e) => j ≤ ps.length ∧ (e = 0 ↔ ∀ p ∈ ps.take j, p.2 = l)) (fun (j, e) => [(0, u), (7, B e), (24, v), (25, I ((ps.length : Nat) : Int)), (26, I ((j : Nat) : Int))]) (fun (j, e) => []) (fun (j, e) => ps.length - j) ((0, 0)) (⟨Nat.zero_le _, by simp⟩) (by repeat (first | exact trivial | refine ⟨rfl, ?_⟩)) ((List.Sublist.refl _)) ?_
    rintro ⟨j, e⟩ hI
    try dsimp only at hI ⊢
    have hlen : ∀ i, i < ps.length → (ps.getD i dP).2.length = l.length := fun i hi => hA _ (getD_mem hi)
    refine tk_seq ?_
    refine tk_region ?_
    refine tk_q rfl rfl rfl (y_lss rfl rfl) ?_
    refine tk_nil ?_
    refine tk_then ?_
    refine tk_seq ?_
    refine tk_condP rfl (fun ht27 => ?_) (fun ht27 => ?_)
    · skip
      refine tk_skip ?_
      refine tk_then ?_
      refine tk_seq ?_
      refine tk_block ?_
      refine tk_seq ?_
      refine tk_region ?_
      refine tk_q rfl rfl rfl (y_ixR (j := j) rfl rfl hv.1 lenP (by kernel_rfl)) ?_
      refine tk_q rfl rfl rfl (y_load rfl rfl (fun w hw => ((fun w hw => Ro.rd hv hw) w hw).cell (gM (f := Prod.fst) (d := dP) lenP))) ?_
      refine tk_q rfl rfl rfl (y_assign rfl) ?_
      refine tk_nil ?_
      refine tk_then ?_
      refine tk_seq ?_
      refine tk_region ?_
      refine tk_q rfl rfl rfl (y_move rfl) ?_
      have hlj := hlen j (by omega)
      refine tk_q rfl rfl rfl (y_lenRN (n' := ((ps.getD j dP).2).length) rfl (hp _ (getD_mem lenP)).1 rfl (by first | rfl | (rw [List.length_map]; omega) | simp)) ?_
      refine tk_q rfl rfl rfl (y_move rfl) ?_
      refine tk_nil ?_
      refine tk_then ?_
      refine tk_block ?_
      refine tk_loop (X := Nat × UInt8) (fun (i, e2) => i ≤ l.length ∧ (e2 = 0 ↔ e = 0 ∧ (ps.getD j dP).2.take i = l.take i)) (fun (i, e2) => [(0, u), (7, B e2), (24, v), (25, I ((ps.length : Nat) : Int)), (26, I ((j : Nat) : Int)), (30, (ps.getD j dP).1), (31, I ((((ps.getD j dP).2).length : Nat) : Int)), (32, I ((i : Nat) : Int))]) (fun (i, e2) => []) (fun (i, e2) => l.length - i) ((0, e)) (⟨Nat.zero_le _, by simp⟩) (by repeat (first | exact trivial | refine ⟨rfl, ?_⟩)) ((List.Sublist.refl _)) ?_
      rintro ⟨i, e2⟩ hI2
      try dsimp only at hI2 ⊢
      refine tk_seq ?_
      refine tk_region ?_
      refine tk_q rfl rfl rfl (y_lss rfl rfl) ?_
      refine tk_nil ?_
      refine tk_then ?_
      refine tk_seq ?_
      refine tk_condP rfl (fun ht33 => ?_) (fun ht33 => ?_)
      · skip
        refine tk_skip ?_
        refine tk_then ?_
        refine tk_seq ?_
        refine tk_block ?_
        refine tk_seq ?_
        refine tk_region ?_
        refine tk_q rfl rfl rfl (y_move rfl) ?_
        refine tk_q rfl rfl rfl (y_ixR (j := i) rfl rfl (hp _ (getD_mem lenP)).1 lenP (by kernel_rfl)) ?_
        refine tk_q rfl rfl rfl (y_load rfl rfl (fun w hw => ((fun w hw => Ro.rd (hp _ (getD_mem lenP)) hw) w hw).cell (gM (d := 0) lenP))) ?_
        refine tk_q rfl rfl rfl (y_assign rfl) ?_
        refine tk_q rfl rfl rfl (y_assign rfl) ?_
        refine tk_nil ?_
        refine tk_then ?_
        refine tk_region ?_
        refine tk_q rfl rfl rfl (y_move rfl) ?_
        refine tk_q rfl rfl rfl (y_move rfl) ?_
        refine tk_q rfl rfl rfl (y_move rfl) ?_
        refine tk_q rfl rfl rfl (y_move rfl) ?_
        refine tk_q rfl rfl rfl (y_ixR (j := i) rfl rfl hu.1 lenP (by kernel_rfl)) ?_
        refine tk_q rfl rfl rfl (y_load rfl rfl (fun w hw => ((fun w hw => Ro.rd hu hw) w hw).cell (gM (d := 0) lenP))) ?_
        refine tk_q rfl rfl rfl (y_xor8 (a := ((ps.getD j dP).2).getD i 0) (b := l.getD i 0) rfl rfl) ?_
        refine tk_q rfl rfl rfl (y_or8 (a := e2) (b := (((ps.getD j dP).2).getD i 0) ^^^ (l.getD i 0)) rfl rfl) ?_
        refine tk_q rfl rfl rfl (y_assign rfl) ?_
        refine tk_nil ?_
        refine tk_in_normal ?_
        refine tk_then ?_
        refine tk_region ?_
        refine tk_q rfl rfl rfl (y_addN (a := i) (b := 1) rfl rfl (by omega)) ?_
        refine tk_q rfl rfl rfl (y_move rfl) ?_
        refine tk_nil ?_
        exact tk_again ((i + 1, e2 ||| ((((ps.getD j dP).2).getD i 0) ^^^ (l.getD i 0)))) (⟨by omega, by rw [or_xor_0, take_eq_snoc (by omega) (by omega), hI2.2, and_assoc]⟩) (by first | omega | (dsimp only; omega)) (by repeat (first | exact trivial | refine ⟨rfl, ?_⟩)) (List.Sublist.refl _)
      · skip
        refine tk_exit ?_
        refine tk_then_exit ?_
        refine tk_then_exit ?_
        refine tk_in_hit ?_
        refine tk_in_normal ?_
        refine tk_then ?_
        refine tk_region ?_
        refine tk_q rfl rfl rfl (y_addN (a := j) (b := 1) rfl rfl (by omega)) ?_
        refine tk_q rfl rfl rfl (y_move rfl) ?_
        refine tk_nil ?_
        exact tk_again ((j + 1, e2)) (⟨by omega, by rw [hI2.2, take_snocG (d := dP) (by omega), show i = l.length by omega, List.take_length, List.take_of_length_le (by omega), List.forall_mem_append, List.forall_mem_singleton, hI.2]⟩) (by first | omega | (dsimp only; omega)) (by repeat (first | exact trivial | refine ⟨rfl, ?_⟩)) (List.Sublist.refl _)
    · skip
      refine tk_exit ?_
      refine tk_then_exit ?_
      refine tk_then_exit ?_
      refine tk_in_hit ?_
      refine tk_then ?_
      refine tk_seq ?_
      refine tk_region ?_
      refine tk_q rfl rfl rfl (y_move rfl) ?_
      refine tk_q rfl rfl rfl (y_eql rfl rfl) ?_
      refine tk_re 48 (.bool (decide ((e.toNat : Int) = ((0 : UInt8).toNat : Int)))) (.bool (decide (∀ p ∈ ps, p.2 = l))) rfl (congrArg Value.bool (decide_eq_decide.2 (same_end hI.2 (by omega)))) ?_
      refine tk_q rfl rfl rfl (y_assign rfl) ?_
      refine tk_nil ?_
      refine tk_then ?_
      refine tk_retc ?_
      exact tk_ret (()) (trivial) (.inl rfl) (r1 rfl rfl) (List.Sublist.refl _)
theorem same1_spec {u v u2 : Value} {l m : List UInt8} {w : World} (hu : Ro (Fs []) w (rdB u l)) (hv : Ro (Fs []) w (rd v ([(u2, m)].map Prod.fst))) (hp : ∀ p ∈ [(u2, m)], Ro (Fs []) w (rdB p.1 p.2)) (hb : l.length < 4611686018427387904 ∧ 1 < 4611686018427387904) :
    Spec Tryd.prog 52 [u, v] w [] (fun _ : Unit => True) (fun _ => .bool (decide (m = l))) (fun _ => []) := by
  have h := same_spec hu hv hp (by simpa using hb)
  have e : (decide (∀ p ∈ [(u2, m)], p.2 = l)) = decide (m = l) := decide_eq_decide.2 (by simp)
  rw [e] at h; exact h
end Go.Proofs.YtfofkjajlfphjaaDoor

/- pack: walks over Concat and glyph's Out. -/
import Derived.Test.YtfofkjajlfphjaaDoorPackA
set_option linter.unusedSimpArgs false
set_option linter.unusedVariables false
namespace Go.Proofs.YtfofkjajlfphjaaDoor
open Go Go.RowKit
set_option maxRecDepth 100000
abbrev IN (n : Nat) : Value := I (n : Int)
def numsL (ns : List Nat) : List UInt8 := ns.flatMap numL
theorem flat_succ {ps : List Sb} {i : Nat} (h : i < ps.length) : (ps.take (i + 1)).flatMap Prod.snd = (ps.take i).flatMap Prod.snd ++ (ps.getD i dP).2 := by
  have e : ps.getD i dP = ps[i] := by rw [List.getD_eq_getElem?_getD, List.getElem?_eq_getElem h]; rfl
  rw [e, List.take_add_one, List.getElem?_eq_getElem h]
  simp only [List.flatMap_append, Option.toList, List.flatMap_cons, List.flatMap_nil, List.append_nil]
theorem flat_pre {ps : List Sb} (i : Nat) : ((ps.take i).flatMap Prod.snd).length ≤ (ps.flatMap Prod.snd).length := by
  have := congrArg (fun l => (l.flatMap Prod.snd).length) (List.take_append_drop i ps)
  simp only [List.flatMap_append, List.length_append] at this; omega
theorem numsL_succ {ns : List Nat} {i : Nat} (h : i < ns.length) : numsL (ns.take i) ++ numL (ns.getD i 0) = numsL (ns.take (i + 1)) := by
  have e : ns.getD i 0 = ns[i] := by rw [List.getD_eq_getElem?_getD, List.getElem?_eq_getElem h]; rfl
  rw [e, List.take_add_one, List.getElem?_eq_getElem h]
  simp only [numsL, List.flatMap_append, Option.toList, List.flatMap_cons, List.flatMap_nil, List.append_nil]
theorem numsL_len {ns : List Nat} (h : ∀ n ∈ ns, n < 4611686018427387904) (i : Nat) : (numsL (ns.take i)).length ≤ 9 * ns.length := by
  have h2 : ∀ (l : List Nat), (∀ n ∈ l, n < 4611686018427387904) → (numsL l).length ≤ 9 * l.length := fun l => by
    induction l with
    | nil => intro _; simp [numsL]
    | cons n l ih =>
      intro hl
      have h3 := ih (fun m hm => hl m (List.mem_cons_of_mem _ hm))
      have h4 := numL_len 8 (n := n) (by have := hl n (List.mem_cons_self ..); omega)
      simp only [numsL, List.flatMap_cons, List.length_append, List.length_cons] at h3 ⊢; omega
  have h5 := h2 (ns.take i) (fun n hn => h n (List.mem_of_mem_take hn))
  have : (ns.take i).length ≤ ns.length := by simp; omega
  omega
attribute [local irreducible] sumL keyedL hexL
theorem grow0_spec {n : Nat} {w : World} (hn : n < 140737488355328) : Spec Tryd.prog 95 [.slice none 0 0, I (n : Int)] w [] (fun _ : Value => True) (fun v => v) (fun v => [ownB v ([] : List UInt8) 5]) := by
  refine spec_of (n := 27) Tryd.func95 rfl rfl trivial trivial rfl ?_; refine s_r ?_; refine s_q rfl (y_assign rfl) ?_; refine s_n ?_; refine tk_seq ?_; refine s_r ?_; refine s_q rfl (y_move rfl) ?_; refine tk_qe (.bool false) rfl rfl rfl (y_lss rfl rfl) (bool_f (by omega)) ?_; refine s_n ?_; refine tk_cond0 rfl ?_; refine tk_skip ?_; refine tk_then ?_; refine tk_seq ?_; refine s_r ?_; refine s_q rfl (y_move rfl) ?_
  refine s_q rfl (y_move rfl) ?_; refine s_q rfl (y_capNil rfl rfl) ?_; refine s_q rfl (y_move rfl) ?_; refine s_q rfl (y_lenRN (n' := 0) rfl (RdS.nil (w := default)) rfl (by first | rfl | (rw [List.length_map]; omega) | simp)) ?_; refine s_q rfl (y_subN (a := 0) (b := 0) rfl rfl (by omega)) ?_; refine tk_qe (I ((n : Nat) : Int)) rfl rfl rfl (y_subN (a := n) (b := 0) rfl rfl (by omega)) (by simp) ?_
  refine s_q rfl (y_assign rfl) ?_; refine s_n ?_; refine s_r ?_; refine s_q rfl (y_move rfl) ?_; refine s_q rfl (y_gtr rfl rfl) ?_; refine s_n ?_; refine tk_condP rfl (fun ht16 => ?_) (fun ht16 => ?_)
  · skip
    refine tk_region ?_; refine s_q rfl (y_move rfl) ?_; refine s_q rfl (y_move rfl) ?_; refine s_q rfl (y_capNil rfl rfl) ?_; refine tk_qe (.slice none 0 0) rfl rfl rfl (y_cutRBh (l := []) 0 rfl rfl (RdS.nil (w := default)) (by kernel_rfl) lenP rfl) (rfl) ?_; refine s_q rfl (y_move rfl) ?_; refine tk_act rfl ?_; refine a_appZ (n := n) rfl rfl MK26 rfl lenP lenP rfl fun v22 => ?_; refine tk_own1 (.head _) fun hfv22 => ?_
    refine s_q rfl (y_move rfl) ?_; refine s_q rfl (y_lenRN (n' := 0) rfl (RdS.nil (w := default)) rfl (by first | rfl | (rw [List.length_map]; omega) | simp)) ?_; refine s_q rfl (y_cutRBh (l := List.replicate n 0) 0 rfl rfl hfv22.choose_spec (by kernel_rfl) lenP rfl) ?_; refine tk_ownTake (H1 := []) 0 rfl (Nat.zero_le _) ?_; refine s_q rfl (y_assign rfl) ?_; refine s_n ?_; refine s_r ?_; refine s_q rfl (y_move rfl) ?_
    refine s_q rfl (y_assign rfl) ?_; refine s_n ?_; refine tk_retc ?_
    exact tk_ret (cutR v22 0 0) (trivial) (.inl rfl) (r1 rfl rfl) (List.Sublist.refl _)
  · skip
    refine tk_ownM0 (f := B) 5 ?_; refine tk_skip ?_; refine tk_then ?_; refine s_r ?_; refine s_q rfl (y_move rfl) ?_; refine s_q rfl (y_assign rfl) ?_; refine s_n ?_; refine tk_retc ?_
    exact tk_ret (.slice none 0 0) (trivial) (.inl rfl) (r1 rfl rfl) (List.Sublist.refl _)
theorem concat_spec {v : Value} {ps : List Sb} {L : List UInt8} {w : World} (hv : Ro (Fs []) w (rd v (ps.map Prod.fst))) (hp : ∀ p ∈ ps, Ro (Fs []) w (rdB p.1 p.2)) (hL : ps.flatMap Prod.snd = L) (hb : L.length < 1099511627776 ∧ ps.length < 1099511627776) :
    Spec Tryd.prog 60 [v] w [] (fun _ : Value => True) (fun v => v) (fun v => [ownB v L 5]) := by
  refine spec_of (n := 36) Tryd.func60 rfl rfl trivial trivial rfl ?_
  subst hL
  refine s_r ?_; refine s_q rfl (y_assign rfl) ?_; refine s_n ?_; refine s_r ?_; refine s_q rfl (y_assign rfl) ?_; refine s_n ?_; refine tk_seq ?_; refine s_r ?_; refine s_q rfl (y_move rfl) ?_; refine s_q rfl (y_lenRN (n' := ps.length) rfl hv.1 rfl (by first | rfl | (rw [List.length_map]; omega) | simp)) ?_; refine s_q rfl (y_move rfl) ?_; refine s_n ?_; refine tk_block ?_; refine tk_loop (X := Nat) (fun i => i ≤ ps.length) (fun i => [(0, v), (2, .slice none 0 0), (3, I ((((ps.take i).flatMap Prod.snd).length : Nat) : Int)), (9, v), (10, I ((ps.length : Nat) : Int)), (11, I ((i : Nat) : Int))]) (fun i => []) (fun i => ps.length - i) (0) (Nat.zero_le _) (by repeat (first | exact trivial | refine ⟨rfl, ?_⟩)) ((List.Sublist.refl _)) ?_
  rintro i hI
  try dsimp only at hI ⊢
  have hfl := flat_pre (ps := ps) i
  refine s_r ?_; refine s_q rfl (y_lss rfl rfl) ?_; refine s_n ?_; refine tk_seq ?_; refine tk_condP rfl (fun ht12 => ?_) (fun ht12 => ?_)
  · skip
    refine tk_skip ?_; refine tk_then ?_; refine tk_seq ?_; refine tk_block ?_; refine s_r ?_; refine s_q rfl (y_ixR (j := i) rfl rfl hv.1 lenP (by kernel_rfl)) ?_; refine s_q rfl (y_load rfl rfl (fun w hw => ((fun w hw => Ro.rd hv hw) w hw).cell (gM (f := Prod.fst) (d := dP) lenP))) ?_; refine s_q rfl (y_assign rfl) ?_; refine s_n ?_; refine s_r ?_; refine s_q rfl (y_move rfl) ?_; refine s_q rfl (y_move rfl) ?_
    refine s_q rfl (y_lenRN (n' := ((ps.getD i dP).2).length) rfl (hp _ (getD_mem lenP)).1 rfl (by first | rfl | (rw [List.length_map]; omega) | simp)) ?_
    have hfl3 : ((ps.take i).flatMap Prod.snd).length + (ps.getD i dP).2.length = ((ps.take (i + 1)).flatMap Prod.snd).length := by rw [flat_succ (by omega), List.length_append]
    have hfl2 := flat_pre (ps := ps) (i + 1)
    refine s_q rfl (y_addN (a := ((ps.take i).flatMap Prod.snd).length) (b := ((ps.getD i dP).2).length) rfl rfl (by omega)) ?_; refine s_q rfl (y_assign rfl) ?_; refine s_n ?_; refine s_r ?_; refine s_q rfl (y_move rfl) ?_; refine tk_qe (.bool false) rfl rfl rfl (y_lss rfl rfl) (bool_f (by omega)) ?_; refine s_n ?_; refine tk_cond0 rfl ?_; refine tk_skip ?_; refine tk_in_normal ?_; refine tk_then ?_
    refine tk_region ?_; refine s_q rfl (y_addN (a := i) (b := 1) rfl rfl (by omega)) ?_; refine s_q rfl (y_move rfl) ?_; refine tk_nil ?_; refine tk_re 3 (I (((((ps.take i).flatMap Prod.snd).length) + (((ps.getD i dP).2).length) : Nat) : Int)) (I ((((ps.take (i + 1)).flatMap Prod.snd).length : Nat) : Int)) rfl (congrArg I (by rw [flat_succ (by omega)]; simp)) ?_
    exact tk_again (i + 1) (by first | exact trivial | omega | (dsimp only; omega)) (by first | omega | (dsimp only; omega)) (by repeat (first | exact trivial | refine ⟨rfl, ?_⟩)) (List.Sublist.refl _)
  · skip
    refine tk_exit ?_; refine tk_then_exit ?_; refine tk_then_exit ?_; refine tk_in_hit ?_; refine tk_then ?_; refine s_r ?_; refine s_q rfl (y_move rfl) ?_; refine tk_act rfl ?_; refine a_callv [] _ rfl (by kernel_rfl) rfl (fun w' hw' => grow0_spec (n := ((ps.take i).flatMap Prod.snd).length) lenP) rfl fun v24 _ => ?_; refine s_q rfl (y_assign rfl) ?_; refine s_n ?_; refine tk_seq ?_; refine s_r ?_
    refine s_q rfl (y_move rfl) ?_; refine s_q rfl (y_lenRN (n' := ps.length) rfl hv.1 rfl (by first | rfl | (rw [List.length_map]; omega) | simp)) ?_; refine s_q rfl (y_move rfl) ?_; refine s_n ?_; refine tk_block ?_; refine tk_H [own v24 (((ps.take 0).flatMap Prod.snd).length) (((ps.take 0).flatMap Prod.snd).map B) 5 1] (congrArg (fun z_ => [z_]) (show own v24 (([] : List UInt8).length) (([] : List UInt8).map B) 5 1 = own v24 (((ps.take 0).flatMap Prod.snd).length) (((ps.take 0).flatMap Prod.snd).map B) 5 1 from ownM_cast rfl)) ?_
    refine tk_loop (X := Nat × Value) (fun (i, vg) => i ≤ ps.length) (fun (i, vg) => [(2, .slice none 0 0), (6, vg), (25, v), (26, I ((ps.length : Nat) : Int)), (27, I ((i : Nat) : Int))]) (fun (i, vg) => [own vg (((ps.take i).flatMap Prod.snd).length) (((ps.take i).flatMap Prod.snd).map B) 5 1]) (fun (i, vg) => ps.length - i) ((0, v24)) (Nat.zero_le _) (by repeat (first | exact trivial | refine ⟨rfl, ?_⟩)) ((List.Sublist.refl _)) ?_
    rintro ⟨i, vg⟩ hI
    try dsimp only at hI ⊢
    have hfl := flat_pre (ps := ps) i
    have hfl2 := flat_pre (ps := ps) (i + 1)
    refine tk_own1 (.head _) fun hfg => ?_; refine s_r ?_; refine s_q rfl (y_lss rfl rfl) ?_; refine s_n ?_; refine tk_seq ?_; refine tk_condP rfl (fun ht28 => ?_) (fun ht28 => ?_)
    · skip
      refine tk_skip ?_; refine tk_then ?_; refine tk_seq ?_; refine tk_block ?_; refine s_r ?_; refine s_q rfl (y_ixR (j := i) rfl rfl hv.1 lenP (by kernel_rfl)) ?_; refine s_q rfl (y_load rfl rfl (fun w hw => ((fun w hw => Ro.rd hv hw) w hw).cell (gM (f := Prod.fst) (d := dP) lenP))) ?_; refine s_q rfl (y_assign rfl) ?_; refine s_n ?_; refine tk_region ?_; refine s_q rfl (y_move rfl) ?_; refine s_q rfl (y_move rfl) ?_
      have hfl3 : ((ps.take i).flatMap Prod.snd).length + (ps.getD i dP).2.length = ((ps.take (i + 1)).flatMap Prod.snd).length := by rw [flat_succ (by omega), List.length_append]
      refine tk_act rfl ?_; refine a_appM (H1 := []) (f := B) (l := (ps.take i).flatMap Prod.snd) (m := (ps.getD i dP).2) rfl rfl EL26 rfl rfl (fun w hw => Ro.rd (hp _ (getD_mem lenP)) hw) (fun _ => rfl) ⟨lenP, lenP⟩ fun v33 => ?_; refine tk_own1 (.head _) fun hfv33 => ?_; refine s_q rfl (y_assign rfl) ?_; refine tk_nil ?_; refine tk_in_normal ?_; refine tk_then ?_; refine tk_region ?_; refine s_q rfl (y_addN (a := i) (b := 1) rfl rfl (by omega)) ?_
      refine s_q rfl (y_move rfl) ?_; refine tk_nil ?_; refine tk_H [own v33 (((ps.take (i + 1)).flatMap Prod.snd).length) (((ps.take (i + 1)).flatMap Prod.snd).map B) 5 1] (congrArg (fun z_ => [z_]) (show own v33 ((((ps.take i).flatMap Prod.snd) ++ ((ps.getD i dP).2)).length) ((((ps.take i).flatMap Prod.snd) ++ ((ps.getD i dP).2)).map B) 5 1 = own v33 (((ps.take (i + 1)).flatMap Prod.snd).length) (((ps.take (i + 1)).flatMap Prod.snd).map B) 5 1 from ownM_cast (flat_succ (by omega)).symm)) ?_
      exact tk_again ((i + 1, v33)) (by first | exact trivial | omega | (dsimp only; omega)) (by first | omega | (dsimp only; omega)) (by repeat (first | exact trivial | refine ⟨rfl, ?_⟩)) (List.Sublist.refl _)
    · skip
      refine tk_exit ?_; refine tk_then_exit ?_; refine tk_then_exit ?_; refine tk_in_hit ?_; refine tk_then ?_; refine s_r ?_; refine s_q rfl (y_move rfl) ?_; refine tk_H [own vg ((ps.flatMap Prod.snd).length) ((ps.flatMap Prod.snd).map B) 5 1] (congrArg (fun z_ => [z_]) (show own vg (((ps.take i).flatMap Prod.snd).length) (((ps.take i).flatMap Prod.snd).map B) 5 1 = own vg ((ps.flatMap Prod.snd).length) ((ps.flatMap Prod.snd).map B) 5 1 from ownM_cast (by rw [show i = ps.length by omega, List.take_length]))) ?_
      refine s_q rfl (y_assign rfl) ?_; refine s_n ?_; refine tk_retc ?_
      exact tk_ret (vg) (trivial) (.inl rfl) (r1 rfl rfl) (List.Sublist.refl _)
theorem gbegin_spec {kind : UInt8} {w : World} : Spec Tryd.prog 64 [B kind] w [] (fun _ : Nat × Value => True) (fun x => .pointer (some ⟨x.1, 0, none⟩)) (fun x => [cel x.1 [x.2, I 0] 168, ownB x.2 [72, 89, kind] 5]) := by
  refine spec_of (n := 10) Tryd.func64 rfl rfl trivial trivial rfl ?_; refine s_r ?_; refine s_q rfl (y_assign rfl) ?_; refine s_n ?_; refine s_r ?_; refine tk_act rfl ?_; refine a_slitN (vs := [B 72, B 89]) rfl (List.forall_mem_cons.2 ⟨rfl, (List.forall_mem_cons.2 ⟨rfl, (fun _ h => nomatch h)⟩)⟩) (EL26) rfl rfl (by decide) fun b3 => ?_; refine tk_act rfl ?_; refine a_convX (H1 := []) rfl Tryd.underlying26 Tryd.underlying5 rfl rfl ?_
  refine s_q rfl (y_move rfl) ?_; refine tk_act rfl ?_; refine a_slitN (vs := [B kind]) rfl (List.forall_mem_cons.2 ⟨rfl, (fun _ h => nomatch h)⟩) (EL26) rfl rfl (by decide) fun b6 => ?_; refine tk_celM (H1 := [_]) (f := B) (l := [72, 89]) (T := 5) rfl rfl (by decide) ?_; refine tk_act rfl ?_; refine a_appM (H1 := [_]) (f := B) (l := [72, 89]) (m := [kind]) rfl rfl EL26 rfl rfl (fun w hw => cel_rdE (o := 0) (m := 1) (cp := 1) (vs := [kind].map B) (hw.mem (.head _)) (rfl) (by first | rfl | exact lenP | (simp; omega)) lenP) (fun _ => rfl) ⟨lenP, lenP⟩ fun v7 => ?_
  refine tk_own1 (.tail _ (.head _)) fun hfv7 => ?_; refine tk_own1 (.tail _ (.head _)) fun hf7 => ?_; refine tk_H [cel b6 ([B kind]) 5, own v7 ([72, 89, kind].length) ([72, 89, kind].map B) 5 1] (congrArg (fun z_ => [cel b6 ([B kind]) 5, z_]) (show own v7 (([72, 89] ++ [kind]).length) (([72, 89] ++ [kind]).map B) 5 1 = own v7 ([72, 89, kind].length) ([72, 89, kind].map B) 5 1 from ownM_cast rfl)) ?_
  have hc7 := hf7.choose_spec.cells
  simp only [Value.cells] at hc7
  refine s_q rfl (y_build (v := .agg ([v7, I 0]).toArray) (vs := [(0, v7)]) rfl (run_build (zs := [Value.slice none 0 0, I 0]) (pl := [(0, 1), (1, 1)]) Tryd.underlying168 (fun _ => by kernel_rfl) (fun _ => by kernel_rfl) (by simp [fillL, Value.cells, hc7]))) ?_; refine tk_act rfl ?_; refine a_boxL (cs := [v7, I 0]) rfl rfl fun b9 => ?_; refine s_q rfl (y_assign rfl) ?_; refine s_n ?_; refine tk_retc ?_
  exact tk_ret ((b9, v7)) (trivial) (.inl rfl) (r1 rfl rfl) (.cons_cons _ (.cons _ (List.Sublist.refl _)))
theorem gnum1_spec {ob n : Nat} {v : Value} {b : List UInt8} {w : World} (hn : n < 4611686018427387904) (hb : b.length < 1099511627776) (hh : Pre w [cel ob [v, I 0] 168, ownB v b 5]) :
    Spec Tryd.prog 97 [.pointer (some ⟨ob, 0, none⟩), I (n : Int)] w [cel ob [v, I 0] 168, ownB v b 5] (fun _ : Value => True) (fun _ => .tuple #[]) (fun x => [cel ob [x, I 0] 168, ownB x (b ++ numL n) 5]) := by
  refine spec_of (n := 39) Tryd.func97 rfl rfl hh.1 hh.2 rfl ?_
  have hn9 := numL_len 8 (n := n) (by omega)
  refine tk_seq ?_; refine s_r ?_; refine s_q rfl (y_move rfl) ?_; refine tk_qe (.bool false) rfl rfl rfl (y_lss rfl rfl) (bool_f (by omega)) ?_; refine s_q rfl (y_move rfl) ?_; refine s_g rfl (y_move rfl) ?_; refine tk_gqe (.bool false) rfl rfl rfl (y_geq rfl rfl) (bool_f (by omega)) ?_; refine s_q rfl (y_pick0 rfl rfl) ?_; refine s_n ?_; refine tk_cond0 rfl ?_; refine tk_skip ?_; refine tk_then ?_
  refine tk_seq ?_; refine tk_block ?_; refine tk_loop (X := List UInt8 × Nat × Value) (fun (a, m, va) => a ++ numL m = b ++ numL n ∧ m < 4611686018427387904) (fun (a, m, va) => [(0, .pointer (some ⟨ob, 0, none⟩)), (1, I ((m : Nat) : Int))]) (fun (a, m, va) => [cel ob ([va, I 0]) 168, own va a.length (a.map B) 5 1]) (fun (a, m, va) => m) ((b, n, v)) (⟨rfl, by omega⟩) (by repeat (first | exact trivial | refine ⟨rfl, ?_⟩)) ((List.Sublist.refl _)) ?_
  rintro ⟨a, m, va⟩ hI
  try dsimp only at hI ⊢
  have hla := congrArg List.length hI.1
  rw [List.length_append, List.length_append] at hla
  refine tk_own1 (.tail _ (.head _)) fun hfa => ?_; refine tk_seq ?_; refine s_r ?_; refine s_q rfl (y_move rfl) ?_; refine s_q rfl (y_geq rfl rfl) ?_; refine s_n ?_; refine tk_condP rfl (fun ht13 => ?_) (fun ht13 => ?_)
  · skip
    refine tk_skip ?_; refine tk_then ?_; refine tk_seq ?_; refine tk_block ?_; refine tk_region ?_; refine s_q rfl (y_move rfl) ?_; refine s_q rfl (y_move rfl) ?_; refine s_q rfl (y_nilCheck rfl) ?_; refine s_q rfl (y_fld0 (o := 0) rfl (by kernel_rfl)) ?_; refine s_q rfl (y_load rfl rfl (hc (o := 0) (.head _) (rfl))) ?_; refine s_q rfl (y_move rfl) ?_; refine s_q rfl (y_convi8 (m := m) rfl rfl rfl) ?_
    refine s_q rfl (y_or8 (a := UInt8.ofNat m) (b := 128) rfl rfl) ?_; refine tk_act rfl ?_; refine a_slitN (vs := [B ((UInt8.ofNat m) ||| 128)]) rfl (List.forall_mem_cons.2 ⟨rfl, (fun _ h => nomatch h)⟩) (EL26) rfl rfl (by decide) fun b24 => ?_; refine tk_act rfl ?_; refine a_appM (H1 := [_, _]) (f := B) (l := a) (m := [(UInt8.ofNat m) ||| 128]) rfl rfl EL26 rfl rfl (fun w hw => cel_rdE (o := 0) (m := 1) (cp := 1) (vs := [(UInt8.ofNat m) ||| 128].map B) (hw.mem (.head _)) (rfl) (by first | rfl | exact lenP | (simp; omega)) lenP) (fun _ => rfl) ⟨lenP, lenP⟩ fun v25 => ?_
    refine tk_own1 (.tail _ (.tail _ (.head _))) fun hfv25 => ?_; refine s_q rfl (y_nilCheck rfl) ?_; refine s_q rfl (y_fld0 (o := 0) rfl (by kernel_rfl)) ?_; refine tk_act rfl ?_; refine a_storeE (H1 := [_]) (o := 0) (v := v25) (cs' := [v25, I 0]) rfl rfl (by kernel_rfl) (RdS.one hfv25.choose_spec) rfl (by first | (simp; done) | (simp; omega)) (rfl) ?_; refine tk_nil ?_; refine tk_in_normal ?_; refine tk_then ?_
    refine tk_region ?_; refine s_q rfl (y_move rfl) ?_; refine s_q rfl (y_shrN (k := .i64) (k' := .u64) (a := m) (m := 7) rfl rfl (by decide)) ?_; refine s_q rfl (y_assign rfl) ?_; refine tk_nil ?_
    exact tk_again ((a ++ [UInt8.ofNat m ||| 128], m / 2 ^ 7, v25)) (⟨by dsimp only; rw [← hI.1]; exact numL_step (by omega), by dsimp only; omega⟩) (by dsimp only; omega) (by repeat (first | exact trivial | refine ⟨rfl, ?_⟩)) (.cons _ (List.Sublist.refl _))
  · skip
    refine tk_exit ?_; refine tk_then_exit ?_; refine tk_then_exit ?_; refine tk_in_hit ?_; refine tk_then ?_; refine tk_region ?_; refine s_q rfl (y_move rfl) ?_; refine s_q rfl (y_move rfl) ?_; refine s_q rfl (y_nilCheck rfl) ?_; refine s_q rfl (y_fld0 (o := 0) rfl (by kernel_rfl)) ?_; refine s_q rfl (y_load rfl rfl (hc (o := 0) (.head _) (rfl))) ?_; refine s_q rfl (y_move rfl) ?_; refine s_q rfl (y_convi8 (m := m) rfl rfl rfl) ?_
    refine tk_act rfl ?_; refine a_slitN (vs := [B (UInt8.ofNat m)]) rfl (List.forall_mem_cons.2 ⟨rfl, (fun _ h => nomatch h)⟩) (EL26) rfl rfl (by decide) fun b35 => ?_; refine tk_act rfl ?_; refine a_appM (H1 := [_, _]) (f := B) (l := a) (m := [UInt8.ofNat m]) rfl rfl EL26 rfl rfl (fun w hw => cel_rdE (o := 0) (m := 1) (cp := 1) (vs := [UInt8.ofNat m].map B) (hw.mem (.head _)) (rfl) (by first | rfl | exact lenP | (simp; omega)) lenP) (fun _ => rfl) ⟨lenP, lenP⟩ fun v36 => ?_
    refine tk_own1 (.tail _ (.tail _ (.head _))) fun hfv36 => ?_; refine s_q rfl (y_nilCheck rfl) ?_; refine s_q rfl (y_fld0 (o := 0) rfl (by kernel_rfl)) ?_; refine tk_act rfl ?_; refine a_storeE (H1 := [_]) (o := 0) (v := v36) (cs' := [v36, I 0]) rfl rfl (by kernel_rfl) (RdS.one hfv36.choose_spec) rfl (by first | (simp; done) | (simp; omega)) (rfl) ?_; refine tk_nil ?_; refine tk_H [cel b35 ([B (UInt8.ofNat m)]) 5, cel ob ([v36, I 0]) 168, own v36 ((b ++ numL n).length) ((b ++ numL n).map B) 5 1] (congrArg (fun z_ => [cel b35 ([B (UInt8.ofNat m)]) 5, cel ob ([v36, I 0]) 168, z_]) (show own v36 ((a ++ [UInt8.ofNat m]).length) ((a ++ [UInt8.ofNat m]).map B) 5 1 = own v36 ((b ++ numL n).length) ((b ++ numL n).map B) 5 1 from ownM_cast (by rw [← hI.1, numL_lt (n := m) (by omega)]))) ?_
    exact tk_ret (v36) (trivial) (.inr rfl) (r0 rfl) (.cons _ (List.Sublist.refl _))
theorem gnum_spec {ob : Nat} {nv v : Value} {b : List UInt8} {ns : List Nat} {w : World} (hn : Ro (Fs [cel ob [v, I 0] 168, ownB v b 5]) w (rd nv (ns.map IN))) (hn62 : ∀ n ∈ ns, n < 4611686018427387904) (hnl : ns.length < 1000000) (hb : b.length < 109951162777) (hh : Pre w [cel ob [v, I 0] 168, ownB v b 5]) :
    Spec Tryd.prog 65 [.pointer (some ⟨ob, 0, none⟩), nv] w [cel ob [v, I 0] 168, ownB v b 5] (fun _ : Value => True) (fun _ => .pointer (some ⟨ob, 0, none⟩)) (fun x => [cel ob [x, I 0] 168, ownB x (b ++ numsL ns) 5]) := by
  refine spec_of (n := 27) Tryd.func65 rfl rfl hh.1 hh.2 rfl ?_; refine s_r ?_; refine s_q rfl (y_assign rfl) ?_; refine s_n ?_; refine tk_seq ?_; refine s_r ?_; refine s_q rfl (y_move rfl) ?_; refine s_q rfl (y_lenRN (n' := ns.length) rfl hn.1 rfl (by first | rfl | (rw [List.length_map]; omega) | simp)) ?_; refine s_q rfl (y_move rfl) ?_; refine s_n ?_; refine tk_block ?_; refine tk_H [cel ob ([v, I 0]) 168, own v ((b ++ numsL (ns.take 0)).length) ((b ++ numsL (ns.take 0)).map B) 5 1] (congrArg (fun z_ => [cel ob ([v, I 0]) 168, z_]) (show own v b.length (b.map B) 5 1 = own v ((b ++ numsL (ns.take 0)).length) ((b ++ numsL (ns.take 0)).map B) 5 1 from ownM_cast (by simp [numsL]))) ?_
  refine tk_loop (X := Nat × Value) (fun (i, va) => i ≤ ns.length) (fun (i, va) => [(0, .pointer (some ⟨ob, 0, none⟩)), (4, .pointer none), (7, nv), (8, I ((ns.length : Nat) : Int)), (9, I ((i : Nat) : Int))]) (fun (i, va) => [cel ob ([va, I 0]) 168, own va ((b ++ numsL (ns.take i)).length) ((b ++ numsL (ns.take i)).map B) 5 1]) (fun (i, va) => ns.length - i) ((0, v)) (Nat.zero_le _) (by repeat (first | exact trivial | refine ⟨rfl, ?_⟩)) ((List.Sublist.refl _)) ?_
  rintro ⟨i, va⟩ hI
  try dsimp only at hI ⊢
  have hll := numsL_len (ns := ns) hn62 i
  refine tk_own1 (.tail _ (.head _)) fun hfa => ?_; refine s_r ?_; refine s_q rfl (y_lss rfl rfl) ?_; refine s_n ?_; refine tk_seq ?_; refine tk_condP rfl (fun ht10 => ?_) (fun ht10 => ?_)
  · skip
    refine tk_skip ?_; refine tk_then ?_; refine tk_seq ?_; refine tk_block ?_; refine s_r ?_; refine s_q rfl (y_ixR (j := i) rfl rfl hn.1 lenP (by kernel_rfl)) ?_; refine s_q rfl (y_load rfl rfl (fun w hw => ((fun w hw => Ro.rd hn hw) w hw).cell (gM (f := IN) (d := 0) lenP))) ?_; refine s_q rfl (y_assign rfl) ?_; refine s_n ?_; refine s_r ?_; refine s_q rfl (y_move rfl) ?_; refine s_q rfl (y_pnnil rfl rfl rfl) ?_
    refine s_q rfl (y_move rfl) ?_; refine s_g rfl (y_move rfl) ?_; refine s_g rfl (y_nilCheck rfl) ?_; refine s_g rfl (y_fldN (o := 0) 1 rfl (by kernel_rfl)) ?_; refine s_g rfl (y_load rfl rfl (hc (o := 1) (.head _) (rfl))) ?_; refine s_g rfl ((y_eql rfl rfl).cast (bool_t (by decide))) ?_; refine s_q rfl (y_pick1 rfl rfl) ?_; refine s_n ?_; refine tk_cond1 rfl ?_; refine tk_region ?_; refine s_q rfl (y_move rfl) ?_
    refine s_q rfl (y_move rfl) ?_
    have hni : ns.getD i 0 < 4611686018427387904 := hn62 _ (getD_mem (by omega))
    refine tk_act rfl ?_; refine a_callv [] _ rfl (by kernel_rfl) rfl (fun w' hw' => gnum1_spec (ob := ob) (v := va) (b := b ++ numsL (ns.take i)) (n := ns.getD i 0) lenP lenP (St.pre hw')) rfl fun v24 _ => ?_; refine tk_nil ?_; refine tk_in_normal ?_; refine tk_then ?_; refine tk_region ?_; refine s_q rfl (y_addN (a := i) (b := 1) rfl rfl (by omega)) ?_; refine s_q rfl (y_move rfl) ?_; refine tk_nil ?_
    refine tk_H [cel ob ([v24, I 0]) 168, own v24 ((b ++ numsL (ns.take (i + 1))).length) ((b ++ numsL (ns.take (i + 1))).map B) 5 1] (congrArg (fun z_ => [cel ob ([v24, I 0]) 168, z_]) (show own v24 (((b ++ numsL (ns.take i)) ++ numL (ns.getD i 0)).length) (((b ++ numsL (ns.take i)) ++ numL (ns.getD i 0)).map B) 5 1 = own v24 ((b ++ numsL (ns.take (i + 1))).length) ((b ++ numsL (ns.take (i + 1))).map B) 5 1 from ownM_cast (by rw [List.append_assoc, numsL_succ (by omega)]))) ?_
    exact tk_again ((i + 1, v24)) (by first | exact trivial | omega | (dsimp only; omega)) (by first | omega | (dsimp only; omega)) (by repeat (first | exact trivial | refine ⟨rfl, ?_⟩)) (List.Sublist.refl _)
  · skip
    refine tk_exit ?_; refine tk_then_exit ?_; refine tk_then_exit ?_; refine tk_in_hit ?_; refine tk_then ?_; refine s_r ?_; refine s_q rfl (y_move rfl) ?_; refine s_q rfl (y_assign rfl) ?_; refine s_n ?_; refine tk_retc ?_; refine tk_H [cel ob ([va, I 0]) 168, own va ((b ++ numsL ns).length) ((b ++ numsL ns).map B) 5 1] (congrArg (fun z_ => [cel ob ([va, I 0]) 168, z_]) (show own va ((b ++ numsL (ns.take i)).length) ((b ++ numsL (ns.take i)).map B) 5 1 = own va ((b ++ numsL ns).length) ((b ++ numsL ns).map B) 5 1 from ownM_cast (by rw [show i = ns.length by omega, List.take_length]))) ?_
    exact tk_ret (va) (trivial) (.inl rfl) (r1 rfl rfl) (List.Sublist.refl _)
theorem graw_spec {ob : Nat} {pv v : Value} {b L : List UInt8} {ps : List Sb} {w : World} (hv : Ro (Fs [cel ob [v, I 0] 168, ownB v b 5]) w (rd pv (ps.map Prod.fst))) (hp : ∀ p ∈ ps, Ro (Fs [cel ob [v, I 0] 168, ownB v b 5]) w (rdB p.1 p.2)) (hL : ps.flatMap Prod.snd = L)
    (hpl : ps.length < 1099511627776) (hLl : L.length < 1099511627776) (hb : b.length < 1099511627776) (hh : Pre w [cel ob [v, I 0] 168, ownB v b 5]) :
    Spec Tryd.prog 66 [.pointer (some ⟨ob, 0, none⟩), pv] w [cel ob [v, I 0] 168, ownB v b 5] (fun _ : Value => True) (fun _ => .pointer (some ⟨ob, 0, none⟩)) (fun x => [cel ob [x, I 0] 168, ownB x (b ++ L) 5]) := by
  refine spec_of (n := 33) Tryd.func66 rfl rfl hh.1 hh.2 rfl ?_
  subst hL
  refine s_r ?_; refine s_q rfl (y_assign rfl) ?_; refine s_n ?_; refine tk_seq ?_; refine s_r ?_; refine s_q rfl (y_move rfl) ?_; refine s_q rfl (y_lenRN (n' := ps.length) rfl hv.1 rfl (by first | rfl | (rw [List.length_map]; omega) | simp)) ?_; refine s_q rfl (y_move rfl) ?_; refine s_n ?_; refine tk_block ?_; refine tk_H [cel ob ([v, I 0]) 168, own v ((b ++ (ps.take 0).flatMap Prod.snd).length) ((b ++ (ps.take 0).flatMap Prod.snd).map B) 5 1] (congrArg (fun z_ => [cel ob ([v, I 0]) 168, z_]) (show own v b.length (b.map B) 5 1 = own v ((b ++ (ps.take 0).flatMap Prod.snd).length) ((b ++ (ps.take 0).flatMap Prod.snd).map B) 5 1 from ownM_cast (by simp))) ?_
  refine tk_loop (X := Nat × Value) (fun (i, va) => i ≤ ps.length) (fun (i, va) => [(0, .pointer (some ⟨ob, 0, none⟩)), (4, .pointer none), (7, pv), (8, I ((ps.length : Nat) : Int)), (9, I ((i : Nat) : Int))]) (fun (i, va) => [cel ob ([va, I 0]) 168, own va ((b ++ (ps.take i).flatMap Prod.snd).length) ((b ++ (ps.take i).flatMap Prod.snd).map B) 5 1]) (fun (i, va) => ps.length - i) ((0, v)) (Nat.zero_le _) (by repeat (first | exact trivial | refine ⟨rfl, ?_⟩)) ((List.Sublist.refl _)) ?_
  rintro ⟨i, va⟩ hI
  try dsimp only at hI ⊢
  have hfl := flat_pre (ps := ps) i
  have hfl2 := flat_pre (ps := ps) (i + 1)
  refine tk_own1 (.tail _ (.head _)) fun hfa => ?_; refine s_r ?_; refine s_q rfl (y_lss rfl rfl) ?_; refine s_n ?_; refine tk_seq ?_; refine tk_condP rfl (fun ht10 => ?_) (fun ht10 => ?_)
  · skip
    refine tk_skip ?_; refine tk_then ?_; refine tk_seq ?_; refine tk_block ?_; refine s_r ?_; refine s_q rfl (y_ixR (j := i) rfl rfl hv.1 lenP (by kernel_rfl)) ?_; refine s_q rfl (y_load rfl rfl (fun w hw => ((fun w hw => Ro.rd hv hw) w hw).cell (gM (f := Prod.fst) (d := dP) lenP))) ?_; refine s_q rfl (y_assign rfl) ?_; refine s_n ?_; refine s_r ?_; refine s_q rfl (y_move rfl) ?_; refine s_q rfl (y_pnnil rfl rfl rfl) ?_
    refine s_q rfl (y_move rfl) ?_; refine s_g rfl (y_move rfl) ?_; refine s_g rfl (y_nilCheck rfl) ?_; refine s_g rfl (y_fldN (o := 0) 1 rfl (by kernel_rfl)) ?_; refine s_g rfl (y_load rfl rfl (hc (o := 1) (.head _) (rfl))) ?_; refine s_g rfl ((y_eql rfl rfl).cast (bool_t (by decide))) ?_; refine s_q rfl (y_pick1 rfl rfl) ?_; refine s_n ?_; refine tk_cond1 rfl ?_; refine tk_region ?_; refine s_q rfl (y_move rfl) ?_
    refine s_q rfl (y_move rfl) ?_; refine s_q rfl (y_nilCheck rfl) ?_; refine s_q rfl (y_fld0 (o := 0) rfl (by kernel_rfl)) ?_; refine s_q rfl (y_load rfl rfl (hc (o := 0) (.head _) (rfl))) ?_; refine s_q rfl (y_move rfl) ?_
    have hfl3 : ((ps.take i).flatMap Prod.snd).length + (ps.getD i dP).2.length = ((ps.take (i + 1)).flatMap Prod.snd).length := by rw [flat_succ (by omega), List.length_append]
    refine tk_act rfl ?_; refine a_appM (H1 := [_]) (f := B) (l := b ++ (ps.take i).flatMap Prod.snd) (m := (ps.getD i dP).2) rfl rfl EL26 rfl rfl (fun w hw => Ro.rd (hp _ (getD_mem lenP)) hw) (fun _ => rfl) ⟨lenP, lenP⟩ fun v28 => ?_; refine tk_own1 (.tail _ (.head _)) fun hfv28 => ?_; refine s_q rfl (y_nilCheck rfl) ?_; refine s_q rfl (y_fld0 (o := 0) rfl (by kernel_rfl)) ?_; refine tk_act rfl ?_; refine a_storeE (H1 := []) (o := 0) (v := v28) (cs' := [v28, I 0]) rfl rfl (by kernel_rfl) (RdS.one hfv28.choose_spec) rfl (by first | (simp; done) | (simp; omega)) (rfl) ?_
    refine tk_nil ?_; refine tk_in_normal ?_; refine tk_then ?_; refine tk_region ?_; refine s_q rfl (y_addN (a := i) (b := 1) rfl rfl (by omega)) ?_; refine s_q rfl (y_move rfl) ?_; refine tk_nil ?_; refine tk_H [cel ob ([v28, I 0]) 168, own v28 ((b ++ (ps.take (i + 1)).flatMap Prod.snd).length) ((b ++ (ps.take (i + 1)).flatMap Prod.snd).map B) 5 1] (congrArg (fun z_ => [cel ob ([v28, I 0]) 168, z_]) (show own v28 (((b ++ (ps.take i).flatMap Prod.snd) ++ ((ps.getD i dP).2)).length) (((b ++ (ps.take i).flatMap Prod.snd) ++ ((ps.getD i dP).2)).map B) 5 1 = own v28 ((b ++ (ps.take (i + 1)).flatMap Prod.snd).length) ((b ++ (ps.take (i + 1)).flatMap Prod.snd).map B) 5 1 from ownM_cast (by rw [List.append_assoc, flat_succ (by omega)]))) ?_
    exact tk_again ((i + 1, v28)) (by first | exact trivial | omega | (dsimp only; omega)) (by first | omega | (dsimp only; omega)) (by repeat (first | exact trivial | refine ⟨rfl, ?_⟩)) (List.Sublist.refl _)
  · skip
    refine tk_exit ?_; refine tk_then_exit ?_; refine tk_then_exit ?_; refine tk_in_hit ?_; refine tk_then ?_; refine s_r ?_; refine s_q rfl (y_move rfl) ?_; refine s_q rfl (y_assign rfl) ?_; refine s_n ?_; refine tk_retc ?_; refine tk_H [cel ob ([va, I 0]) 168, own va ((b ++ ps.flatMap Prod.snd).length) ((b ++ ps.flatMap Prod.snd).map B) 5 1] (congrArg (fun z_ => [cel ob ([va, I 0]) 168, z_]) (show own va ((b ++ (ps.take i).flatMap Prod.snd).length) ((b ++ (ps.take i).flatMap Prod.snd).map B) 5 1 = own va ((b ++ ps.flatMap Prod.snd).length) ((b ++ ps.flatMap Prod.snd).map B) 5 1 from ownM_cast (by rw [show i = ps.length by omega, List.take_length]))) ?_
    exact tk_ret (va) (trivial) (.inl rfl) (r1 rfl rfl) (List.Sublist.refl _)
theorem gbytes_spec {ob : Nat} {v : Value} {b : List UInt8} {w : World} (hb : b.length < 1099511627776) (hh : Pre w [cel ob [v, I 0] 168, ownB v b 5]) :
    Spec Tryd.prog 67 [.pointer (some ⟨ob, 0, none⟩)] w [cel ob [v, I 0] 168, ownB v b 5] (fun _ : Value => True) (fun x => .tuple #[x, I 0]) (fun x => [cel ob [v, I 0] 168, ownB v b 5, ownB x b 5]) := by
  refine spec_of (n := 22) Tryd.func67 rfl rfl hh.1 hh.2 rfl ?_; refine s_r ?_; refine s_q rfl (y_assign rfl) ?_; refine s_q rfl (y_assign rfl) ?_; refine s_n ?_; refine tk_seq ?_; refine tk_block ?_; refine s_r ?_; refine s_q rfl (y_move rfl) ?_; refine s_q rfl (y_pnil rfl rfl rfl) ?_; refine s_q rfl (y_assign rfl) ?_; refine s_n ?_; refine tk_cond0 rfl ?_; refine s_r ?_; refine s_q rfl (y_move rfl) ?_
  refine s_q rfl (y_nilCheck rfl) ?_; refine s_q rfl (y_fldN (o := 0) 1 rfl (by kernel_rfl)) ?_; refine s_q rfl (y_load rfl rfl (hc (o := 1) (.head _) (rfl))) ?_; refine s_q rfl ((y_neq rfl rfl).cast (bool_f (by decide))) ?_; refine s_q rfl (y_assign rfl) ?_; refine s_n ?_; refine tk_cond0 rfl ?_; refine tk_skip ?_; refine tk_in_normal ?_; refine tk_then ?_; refine s_r ?_; refine s_q rfl (y_move rfl) ?_
  refine s_q rfl (y_nilCheck rfl) ?_; refine s_q rfl (y_fld0 (o := 0) rfl (by kernel_rfl)) ?_; refine s_q rfl (y_load rfl rfl (hc (o := 0) (.head _) (rfl))) ?_; refine tk_act rfl ?_; refine a_callv [] _ rfl (by kernel_rfl) rfl (fun w' hw' => clone_spec (l := b) (Ro.own (H0 := []) hw' (.tail _ (.head _))) lenP) rfl fun v21 _ => ?_; refine s_q rfl (y_assign rfl) ?_; refine s_q rfl (y_assign rfl) ?_; refine s_n ?_
  refine tk_retc ?_; refine tk_perm _ mv2 ?_; refine tk_perm _ mv2 ?_
  exact tk_ret (v21) (trivial) (.inl rfl) (r2 rfl rfl rfl) (List.Sublist.refl _)
end Go.Proofs.YtfofkjajlfphjaaDoor

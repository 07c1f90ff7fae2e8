/- wax: the walks over the laws WaxSeals and WaxOpens. -/
import Derived.Test.YtfofkjajlfphjaaDoorWaxB
set_option linter.unusedSimpArgs false
set_option linter.unusedVariables false
namespace Go.Proofs.YtfofkjajlfphjaaDoor
open Go Go.RowKit
set_option maxRecDepth 100000
attribute [local irreducible] hidL markL sealL sealF openF keyedL Cip.keyW Cip.hideL
theorem cntM (n : Int) (q : Nat) (hq : 0 < q) : ∃ m : Nat, m < q ∧ (IntKind.u64.wrap n).tmod (q : Int) = (m : Int) := by
  have h0 : 0 ≤ IntKind.u64.wrap n := by rw [IntKind.wrap_u64]; omega
  have h1 : (IntKind.u64.wrap n).tmod (q : Int) = (IntKind.u64.wrap n) % (q : Int) := Int.tmod_eq_emod_of_nonneg h0
  have h2 : 0 ≤ (IntKind.u64.wrap n) % (q : Int) := Int.emod_nonneg _ (by omega)
  have h3 : (IntKind.u64.wrap n) % (q : Int) < q := Int.emod_lt_of_pos _ (by omega)
  exact ⟨((IntKind.u64.wrap n) % (q : Int)).toNat, by omega, by rw [h1]; omega⟩
theorem to_spec {hk mk : List UInt8} {w : World} (hk32 : hk.length = 32) (mk32 : mk.length = 32) : Spec Tryd.prog 18 [.agg (hk.map B ++ (mk.map B)).toArray] w [] (fun _ : Unit => True) (fun _ => .agg (hk.map B ++ (mk.map B)).toArray) (fun _ => []) := by
  refine spec_of (n := 8) Tryd.func18 rfl rfl trivial trivial rfl ?_
  refine tk_seq ?_
  refine tk_region ?_
  refine tk_act rfl ?_; refine a_boxL (cs := hk.map B ++ (mk.map B)) rfl rfl fun b1 => ?_
  refine tk_act rfl ?_; refine a_allocL (cs := (List.replicate 32 0).map B ++ ((List.replicate 32 0).map B)) (by kernel_rfl) rfl fun b2 => ?_
  refine tk_nil ?_
  refine tk_then ?_
  refine tk_seq ?_
  refine tk_region ?_
  refine tk_q rfl rfl rfl (y_fld0 (o := 0) rfl (by kernel_rfl)) ?_
  refine tk_q rfl rfl rfl (y_loadA (vs := hk.map B) 32 rfl (by kernel_rfl) lenP (hseg (pre := ([] : List Value)) (post := mk.map B) (.tail _ (.head _)) lenP (by simp))) ?_
  refine tk_q rfl rfl rfl (y_fldN (o := 0) 32 rfl (by kernel_rfl)) ?_
  refine tk_q rfl rfl rfl (y_loadA (vs := mk.map B) 32 rfl (by kernel_rfl) lenP (hseg (pre := hk.map B) (post := ([] : List Value)) (.tail _ (.head _)) lenP (by simp))) ?_
  refine tk_q rfl rfl rfl (y_build (v := .agg (hk.map B ++ (mk.map B)).toArray) (vs := [(0, .agg (hk.map B).toArray), (1, .agg (mk.map B).toArray)]) rfl (run_build (zs := (List.replicate 32 0).map B ++ ((List.replicate 32 0).map B)) (pl := [(0, 32), (32, 32)]) Tryd.underlying36 (fun _ => by kernel_rfl) (fun _ => by kernel_rfl) (by simp [fillL, Value.cells, hk32, mk32]))) ?_
  refine tk_act rfl ?_; refine a_storeW (H1 := []) (vs := hk.map B ++ (mk.map B)) 64 rfl rfl (by kernel_rfl) rfl ⟨lenP, lenP⟩ (List.forall_mem_append.2 ⟨oneB, oneB⟩) ?_
  refine tk_nil ?_
  refine tk_then ?_
  refine tk_retc ?_
  exact tk_ret (()) (trivial) (.inl rfl) (rc (vs := hk.map B ++ (mk.map B)) rfl rfl (by simp [hk32, mk32]; kernel_rfl) (hcw (.head _))) (List.nil_sublist _)
theorem cutw_spec {bs : List UInt8} {bv : Value} {w : World} (hb : Ro (Fs []) w (rdB bv bs)) : Spec Tryd.prog 16 [bv] w [] (fun _ : Unit => True) (fun _ => cutR bv 0 (min bs.length 150)) (fun _ => []) := by
  refine spec_of (n := 8) Tryd.func16 rfl rfl trivial trivial rfl ?_
  refine tk_seq ?_
  refine tk_region ?_
  refine tk_q rfl rfl rfl (y_assign rfl) ?_
  refine tk_nil ?_
  refine tk_then ?_
  refine tk_seq ?_
  refine tk_region ?_
  refine tk_q rfl rfl rfl (y_move rfl) ?_
  refine tk_q rfl rfl rfl (y_move rfl) ?_
  refine tk_q rfl rfl rfl (y_lenRN (n' := bs.length) rfl hb.1 rfl (by first | rfl | (rw [List.length_map]; omega) | simp)) ?_
  refine tk_q rfl rfl rfl (y_minN (a := bs.length) (b := 150) rfl rfl) ?_
  refine tk_q rfl rfl rfl (y_cutRBh (l := bs) (min bs.length 150) rfl rfl hb.1 (by kernel_rfl) lenP rfl) ?_
  refine tk_q rfl rfl rfl (y_assign rfl) ?_
  refine tk_nil ?_
  refine tk_then ?_
  refine tk_retc ?_
  exact tk_ret (()) (trivial) (.inl rfl) (r1 rfl rfl) (List.Sublist.refl _)
theorem waxes_spec {w : World} (hg : Ro (Fs []) w glob) : Spec Tryd.prog 15 [] w [] (fun _ : Unit => True) (fun _ => .bool true) (fun _ => []) := by
  refine spec_of (n := 41) Tryd.func15 rfl rfl trivial trivial rfl ?_
  have hs : sealF (List.replicate 32 0) (List.replicate 32 0) 1 [97] ([5, 0, 0, 0, 0, 0, 0, 0, 0, 0, 0, 0, 0, 0, 0, 0] : List UInt8) [] = (sealL (List.replicate 32 0) (List.replicate 32 0) 1 [97] ([5, 0, 0, 0, 0, 0, 0, 0, 0, 0, 0, 0, 0, 0, 0, 0] : List UInt8) [], 0) := sealF_ok (by decide) (by decide)
  have ho : openF (List.replicate 32 0) (List.replicate 32 0) 1 [97] (sealL (List.replicate 32 0) (List.replicate 32 0) 1 [97] ([5, 0, 0, 0, 0, 0, 0, 0, 0, 0, 0, 0, 0, 0, 0, 0] : List UInt8) []) = ([], 0) := open_seal rfl (by decide) (by decide)
  have hl : (sealL (List.replicate 32 0) (List.replicate 32 0) 1 [97] ([5, 0, 0, 0, 0, 0, 0, 0, 0, 0, 0, 0, 0, 0, 0, 0] : List UInt8) []).length = 48 := sealL_len rfl
  refine tk_seq ?_
  refine tk_region ?_
  refine tk_q rfl rfl rfl (y_assign rfl) ?_
  refine tk_nil ?_
  refine tk_then ?_
  refine tk_seq ?_
  refine tk_region ?_
  refine tk_q rfl rfl rfl (y_build (v := .agg ((List.replicate 32 0).map B ++ ((List.replicate 32 0).map B)).toArray) (vs := []) rfl (fun _ => by kernel_rfl)) ?_
  refine tk_act rfl ?_; refine a_allocL (cs := (List.replicate 32 0).map B ++ ((List.replicate 32 0).map B)) (by kernel_rfl) rfl fun b1 => ?_
  refine tk_act rfl ?_; refine a_storeW (H1 := []) (vs := (List.replicate 32 0).map B ++ ((List.replicate 32 0).map B)) 64 rfl rfl (by kernel_rfl) rfl ⟨lenP, lenP⟩ (List.forall_mem_append.2 ⟨oneB, oneB⟩) ?_
  refine tk_nil ?_
  refine tk_then ?_
  refine tk_seq ?_
  refine tk_region ?_
  refine tk_q rfl rfl rfl (y_loadA 64 rfl (by kernel_rfl) lenP (hcw (.head _))) ?_
  refine tk_q rfl rfl rfl (y_build (v := .agg (([5, 0, 0, 0, 0, 0, 0, 0, 0, 0, 0, 0, 0, 0, 0, 0] : List UInt8).map B).toArray) (vs := [(0, B 5)]) rfl (fun _ => by kernel_rfl)) ?_
  refine tk_act rfl ?_; refine a_callv [] _ rfl (by kernel_rfl) rfl (fun w' hw' => seal_spec (hk := List.replicate 32 0) (mk := List.replicate 32 0) (kind := 1) (name := [97]) (N := ([5, 0, 0, 0, 0, 0, 0, 0, 0, 0, 0, 0, 0, 0, 0, 0] : List UInt8)) (ps := ([] : List Sb)) (L := []) ⟨lenP, lenP, lenP⟩ Ro.rnil (fun _ h => nomatch h) (by simp) ⟨lenP, lenP, lenP⟩ (hg.call hw')) rfl fun v10 _ => ?_
  refine tk_H [own v10 ((sealL (List.replicate 32 0) (List.replicate 32 0) 1 [97] ([5, 0, 0, 0, 0, 0, 0, 0, 0, 0, 0, 0, 0, 0, 0, 0] : List UInt8) []).length) ((sealL (List.replicate 32 0) (List.replicate 32 0) 1 [97] ([5, 0, 0, 0, 0, 0, 0, 0, 0, 0, 0, 0, 0, 0, 0, 0] : List UInt8) []).map B) 5 1, cel b1 ((List.replicate 32 0).map B ++ ((List.replicate 32 0).map B)) 36] (congrArg (fun z_ => [z_, cel b1 ((List.replicate 32 0).map B ++ ((List.replicate 32 0).map B)) 36]) (show own v10 (((sealF (List.replicate 32 0) (List.replicate 32 0) 1 [97] ([5, 0, 0, 0, 0, 0, 0, 0, 0, 0, 0, 0, 0, 0, 0, 0] : List UInt8) []).1).length) (((sealF (List.replicate 32 0) (List.replicate 32 0) 1 [97] ([5, 0, 0, 0, 0, 0, 0, 0, 0, 0, 0, 0, 0, 0, 0, 0] : List UInt8) []).1).map B) 5 1 = own v10 ((sealL (List.replicate 32 0) (List.replicate 32 0) 1 [97] ([5, 0, 0, 0, 0, 0, 0, 0, 0, 0, 0, 0, 0, 0, 0, 0] : List UInt8) []).length) ((sealL (List.replicate 32 0) (List.replicate 32 0) 1 [97] ([5, 0, 0, 0, 0, 0, 0, 0, 0, 0, 0, 0, 0, 0, 0, 0] : List UInt8) []).map B) 5 1 from ownM_cast (by rw [hs]))) ?_
  refine tk_re 10 (.tuple #[v10, I (((sealF (List.replicate 32 0) (List.replicate 32 0) 1 [97] ([5, 0, 0, 0, 0, 0, 0, 0, 0, 0, 0, 0, 0, 0, 0, 0] : List UInt8) []).2 : Nat) : Int)]) (.tuple #[v10, I 0]) rfl (by rw [hs]; rfl) ?_
  refine tk_own1 (.head _) fun hfv10 => ?_
  refine tk_q rfl rfl rfl (y_move rfl) ?_
  refine tk_q rfl rfl rfl (y_extract rfl rfl) ?_
  refine tk_q rfl rfl rfl (y_extract rfl rfl) ?_
  refine tk_q rfl rfl rfl (y_assign rfl) ?_
  refine tk_q rfl rfl rfl (y_assign rfl) ?_
  refine tk_nil ?_
  refine tk_then ?_
  refine tk_seq ?_
  refine tk_region ?_
  refine tk_q rfl rfl rfl (y_loadA 64 rfl (by kernel_rfl) lenP (hcw (.tail _ (.head _)))) ?_
  refine tk_q rfl rfl rfl (y_move rfl) ?_
  refine tk_act rfl ?_; refine a_callv [] _ rfl (by kernel_rfl) rfl (fun w' hw' => open_spec (hk := List.replicate 32 0) (mk := List.replicate 32 0) (kind := 1) (name := [97]) (b := sealL (List.replicate 32 0) (List.replicate 32 0) 1 [97] ([5, 0, 0, 0, 0, 0, 0, 0, 0, 0, 0, 0, 0, 0, 0, 0] : List UInt8) []) ⟨lenP, lenP⟩ (Ro.own (H0 := []) hw' (.head _)) ⟨lenP, lenP⟩ (hg.call hw')) rfl fun v16 _ => ?_
  refine tk_H [own v16 ([].length) ([].map B) 5 1, own v10 ((sealL (List.replicate 32 0) (List.replicate 32 0) 1 [97] ([5, 0, 0, 0, 0, 0, 0, 0, 0, 0, 0, 0, 0, 0, 0, 0] : List UInt8) []).length) ((sealL (List.replicate 32 0) (List.replicate 32 0) 1 [97] ([5, 0, 0, 0, 0, 0, 0, 0, 0, 0, 0, 0, 0, 0, 0, 0] : List UInt8) []).map B) 5 1, cel b1 ((List.replicate 32 0).map B ++ ((List.replicate 32 0).map B)) 36] (congrArg (fun z_ => [z_, own v10 ((sealL (List.replicate 32 0) (List.replicate 32 0) 1 [97] ([5, 0, 0, 0, 0, 0, 0, 0, 0, 0, 0, 0, 0, 0, 0, 0] : List UInt8) []).length) ((sealL (List.replicate 32 0) (List.replicate 32 0) 1 [97] ([5, 0, 0, 0, 0, 0, 0, 0, 0, 0, 0, 0, 0, 0, 0, 0] : List UInt8) []).map B) 5 1, cel b1 ((List.replicate 32 0).map B ++ ((List.replicate 32 0).map B)) 36]) (show own v16 (((openF (List.replicate 32 0) (List.replicate 32 0) 1 [97] (sealL (List.replicate 32 0) (List.replicate 32 0) 1 [97] ([5, 0, 0, 0, 0, 0, 0, 0, 0, 0, 0, 0, 0, 0, 0, 0] : List UInt8) [])).1).length) (((openF (List.replicate 32 0) (List.replicate 32 0) 1 [97] (sealL (List.replicate 32 0) (List.replicate 32 0) 1 [97] ([5, 0, 0, 0, 0, 0, 0, 0, 0, 0, 0, 0, 0, 0, 0, 0] : List UInt8) [])).1).map B) 5 1 = own v16 ([].length) ([].map B) 5 1 from ownM_cast (by rw [ho]))) ?_
  refine tk_re 16 (.tuple #[v16, I (((openF (List.replicate 32 0) (List.replicate 32 0) 1 [97] (sealL (List.replicate 32 0) (List.replicate 32 0) 1 [97] ([5, 0, 0, 0, 0, 0, 0, 0, 0, 0, 0, 0, 0, 0, 0, 0] : List UInt8) [])).2 : Nat) : Int)]) (.tuple #[v16, I 0]) rfl (by rw [ho]; rfl) ?_
  refine tk_own1 (.head _) fun hfv16 => ?_
  refine tk_q rfl rfl rfl (y_move rfl) ?_
  refine tk_q rfl rfl rfl (y_extract rfl rfl) ?_
  refine tk_q rfl rfl rfl (y_extract rfl rfl) ?_
  refine tk_q rfl rfl rfl (y_assign rfl) ?_
  refine tk_q rfl rfl rfl (y_assign rfl) ?_
  refine tk_nil ?_
  refine tk_then ?_
  refine tk_seq ?_
  refine tk_region ?_
  refine tk_q rfl rfl rfl (y_move rfl) ?_
  refine tk_q rfl rfl rfl ((y_eql rfl rfl).cast (bool_t (by decide))) ?_
  refine tk_q rfl rfl rfl (y_move rfl) ?_
  refine tk_gq rfl rfl rfl (y_move rfl) ?_
  refine tk_gq rfl rfl rfl ((y_eql rfl rfl).cast (bool_t (by decide))) ?_
  refine tk_q rfl rfl rfl (y_pick1 rfl rfl) ?_
  refine tk_q rfl rfl rfl (y_move rfl) ?_
  refine tk_gq rfl rfl rfl (y_move rfl) ?_
  refine tk_gq rfl rfl rfl (y_lenRN (n' := 48) rfl hfv10.choose_spec rfl (by first | rfl | (rw [List.length_map]; omega) | simp)) ?_
  refine tk_gq rfl rfl rfl ((y_eql rfl rfl).cast (bool_t (by decide))) ?_
  refine tk_q rfl rfl rfl (y_pick1 rfl rfl) ?_
  refine tk_q rfl rfl rfl (y_move rfl) ?_
  refine tk_gq rfl rfl rfl (y_move rfl) ?_
  refine tk_gq rfl rfl rfl (y_ixR (j := 0) rfl rfl hfv10.choose_spec lenP (by kernel_rfl)) ?_
  refine tk_gq rfl rfl rfl (y_load rfl rfl (fun w hw => ((fun w hw => own_rdS (hw.mem (.tail _ (.head _)))) w hw).cell (gM (d := 0) lenP))) ?_
  refine tk_gqe (.bool true) rfl rfl rfl (y_eql rfl rfl) (bool_t (by rw [sealL_at rfl (by decide)]; rfl)) ?_
  refine tk_q rfl rfl rfl (y_pick1 rfl rfl) ?_
  refine tk_q rfl rfl rfl (y_move rfl) ?_
  refine tk_gq rfl rfl rfl (y_move rfl) ?_
  refine tk_gq rfl rfl rfl (y_lenRN (n' := 0) rfl hfv16.choose_spec rfl (by first | rfl | (rw [List.length_map]; omega) | simp)) ?_
  refine tk_gq rfl rfl rfl ((y_eql rfl rfl).cast (bool_t (by decide))) ?_
  refine tk_q rfl rfl rfl (y_pick1 rfl rfl) ?_
  refine tk_q rfl rfl rfl (y_assign rfl) ?_
  refine tk_nil ?_
  refine tk_then ?_
  refine tk_retc ?_
  exact tk_ret (()) (trivial) (.inl rfl) (r1 rfl rfl) (List.nil_sublist _)
theorem waxSeals_spec {hk mk name N bs : List UInt8} {kind : UInt8} {bv : Value} {w : World} (hk32 : hk.length = 32) (mk32 : mk.length = 32) (hN : N.length = 16) (hb : Ro (Fs []) w (rdB bv bs)) (hg : Ro (Fs []) w glob) (hnl : name.length < 9223372036854775808) (hbl : bs.length < 9223372036854775808) (at_ : Int) : Spec Tryd.prog 3 [.agg (hk.map B ++ (mk.map B ++ ([B kind, Str name] ++ (N.map B ++ [bv])))).toArray, I at_] w [] (fun _ : Unit => True) (fun _ => .bool true) (fun _ => []) := by
  refine spec_of (n := 101) Tryd.func3 rfl rfl trivial trivial rfl ?_
  refine tk_seq ?_
  refine tk_region ?_
  refine tk_act rfl ?_; refine a_boxL (cs := hk.map B ++ (mk.map B ++ ([B kind, Str name] ++ (N.map B ++ ([bv]))))) rfl rfl fun b2 => ?_
  refine tk_q rfl rfl rfl (y_assign rfl) ?_
  refine tk_nil ?_
  refine tk_then ?_
  refine tk_seq ?_
  refine tk_seq ?_
  refine tk_region ?_
  refine tk_q rfl rfl rfl (y_fldN (o := 0) 65 rfl (by kernel_rfl)) ?_
  refine tk_q rfl rfl rfl (y_load rfl rfl (hc (o := 65) (.head _) (gA (k := 32) (i := 33) (by rw [List.length_map]; exact hk32) (by omega) (gA (k := 32) (i := 1) (by rw [List.length_map]; exact mk32) (by omega) (rfl))))) ?_
  refine tk_q rfl rfl rfl (y_lenStr (l := name) rfl rfl) ?_
  refine tk_q rfl rfl rfl (y_gtr rfl rfl) ?_
  refine tk_nil ?_
  refine tk_then ?_
  refine tk_condP rfl (fun ht16 => ?_) (fun ht16 => ?_)
  · skip
    refine tk_seq ?_
    refine tk_region ?_
    refine tk_act rfl ?_; refine a_callv [] _ rfl (by kernel_rfl) rfl (fun w' hw' => waxes_spec (hg.call hw')) rfl fun _ _ => ?_
    refine tk_q rfl rfl rfl (y_assign rfl) ?_
    refine tk_nil ?_
    refine tk_then ?_
    refine tk_retc ?_
    refine tk_then_ret ?_
    exact tk_ret (()) (trivial) (.inl rfl) (r1 rfl rfl) (List.nil_sublist _)
  · skip
    refine tk_skip ?_
    refine tk_then ?_
    refine tk_seq ?_
    refine tk_region ?_
    refine tk_q rfl rfl rfl (y_fldN (o := 0) 82 rfl (by kernel_rfl)) ?_
    refine tk_q rfl rfl rfl (y_load rfl rfl (hc (o := 82) (.head _) (gA (k := 32) (i := 50) (by rw [List.length_map]; exact hk32) (by omega) (gA (k := 32) (i := 18) (by rw [List.length_map]; exact mk32) (by omega) (gA (k := 2) (i := 16) rfl (by omega) (gA (k := 16) (i := 0) (by rw [List.length_map]; exact hN) (by omega) (rfl))))))) ?_
    refine tk_act rfl ?_; refine a_callv [] _ rfl (by kernel_rfl) rfl (fun w' hw' => cutw_spec (bs := bs) (Ro.call (H0 := []) hb hw')) rfl fun _ _ => ?_
    refine tk_q rfl rfl rfl (y_assign rfl) ?_
    refine tk_nil ?_
    refine tk_then ?_
    refine tk_seq ?_
    refine tk_region ?_
    obtain ⟨m, hm5, hm⟩ := cntM at_ ((bs.take (min bs.length 150)).length + 1) (by omega)
    have hcl : (bs.take (min bs.length 150)).length ≤ 150 := by simp; omega
    refine tk_q rfl rfl rfl (y_move rfl) ?_
    refine tk_q rfl rfl rfl (y_conv rfl rfl rfl) ?_
    refine tk_q rfl rfl rfl (y_move rfl) ?_
    refine tk_q rfl rfl rfl (y_lenRN (n' := (bs.take (min bs.length 150)).length) rfl (RdS.cutBh hb.1 (hi := min bs.length 150) (by omega)) rfl (by first | rfl | (rw [List.length_map]; omega) | simp)) ?_
    refine tk_q rfl rfl rfl (y_addN (a := (bs.take (min bs.length 150)).length) (b := 1) rfl rfl (by omega)) ?_
    refine tk_q rfl rfl rfl (y_convi64 (m := ((bs.take (min bs.length 150)).length) + 1) rfl rfl rfl (wrap_u64 (by omega))) ?_
    refine tk_q rfl rfl rfl ((y_rem (k := .u64) rfl rfl (by omega)).cast (by rw [hm])) ?_
    refine tk_q rfl rfl rfl (y_convi64 (m := m) rfl rfl rfl (wrap_in (by omega) (by omega))) ?_
    refine tk_q rfl rfl rfl (y_assign rfl) ?_
    refine tk_nil ?_
    refine tk_then ?_
    refine tk_seq ?_
    refine tk_region ?_
    refine tk_q rfl rfl rfl (y_fld0 (o := 0) rfl (by kernel_rfl)) ?_
    refine tk_q rfl rfl rfl (y_loadA (vs := hk.map B ++ (mk.map B)) 64 rfl (by kernel_rfl) lenP (hseg (pre := ([] : List Value)) (post := [B kind, Str name] ++ (N.map B ++ ([bv]))) (.head _) lenP (by simp))) ?_
    refine tk_q rfl rfl rfl (y_fldN (o := 0) 64 rfl (by kernel_rfl)) ?_
    refine tk_q rfl rfl rfl (y_load rfl rfl (hc (o := 64) (.head _) (gA (k := 32) (i := 32) (by rw [List.length_map]; exact hk32) (by omega) (gA (k := 32) (i := 0) (by rw [List.length_map]; exact mk32) (by omega) (rfl))))) ?_
    refine tk_q rfl rfl rfl (y_fldN (o := 0) 65 rfl (by kernel_rfl)) ?_
    refine tk_q rfl rfl rfl (y_load rfl rfl (hc (o := 65) (.head _) (gA (k := 32) (i := 33) (by rw [List.length_map]; exact hk32) (by omega) (gA (k := 32) (i := 1) (by rw [List.length_map]; exact mk32) (by omega) (rfl))))) ?_
    refine tk_q rfl rfl rfl (y_fldN (o := 0) 66 rfl (by kernel_rfl)) ?_
    refine tk_q rfl rfl rfl (y_loadA (vs := N.map B) 16 rfl (by kernel_rfl) lenP (hseg (pre := hk.map B ++ (mk.map B ++ ([B kind, Str name]))) (post := [bv]) (.head _) lenP (by simp))) ?_
    refine tk_q rfl rfl rfl (y_move rfl) ?_
    refine tk_q rfl rfl rfl (y_str (l := bs.take (min bs.length 150)) rfl rfl rfl rfl (fun w hw => RdS.cutBh ((fun w hw => Ro.rd hb hw) w hw) (hi := min bs.length 150) (by omega))) ?_
    refine tk_act rfl ?_; refine a_callv [] _ rfl (by kernel_rfl) rfl (fun w' hw' => dseal_spec (hk := hk) (mk := mk) (kind := kind) (name := name) (N := N) (l := bs.take (min bs.length 150)) ⟨lenP, lenP, lenP⟩ ⟨lenP, lenP⟩) rfl fun _ _ => ?_
    refine tk_q rfl rfl rfl (y_move rfl) ?_
    refine tk_q rfl rfl rfl (y_extract rfl rfl) ?_
    refine tk_q rfl rfl rfl (y_extract rfl rfl) ?_
    refine tk_q rfl rfl rfl (y_assign rfl) ?_
    refine tk_q rfl rfl rfl (y_assign rfl) ?_
    refine tk_nil ?_
    refine tk_then ?_
    refine tk_seq ?_
    refine tk_drawH [cel b2 (hk.map B ++ (mk.map B ++ ([B kind, Str name] ++ (N.map B ++ ([bv]))))) 28] [] (by kernel_rfl) ?_
    refine tx_q 0 rfl (by kernel_rfl) rfl rfl rfl (fun _ _ _ h => h) (y_fld0 (o := 0) rfl (by kernel_rfl)) ?_
    refine tx_l 1 rfl (by kernel_rfl) (by kernel_rfl) rfl rfl rfl (fun _ _ _ h => h) (fun _ h => h.sub (List.Sublist.refl _)) (y_loadA (vs := hk.map B ++ (mk.map B)) 64 rfl (by kernel_rfl) lenP (hseg (pre := ([] : List Value)) (post := [B kind, Str name] ++ (N.map B ++ ([bv]))) (.head _) lenP (by simp))) ?_
    refine tx_q 3 rfl (by kernel_rfl) rfl rfl rfl (fun _ _ _ h => h) (y_fldN (o := 0) 64 rfl (by kernel_rfl)) ?_
    refine tx_l 4 rfl (by kernel_rfl) (by kernel_rfl) rfl rfl rfl (fun _ _ _ h => h) (fun _ h => h.sub (List.Sublist.refl _)) (y_load rfl rfl (hc (o := 64) (.head _) (gA (k := 32) (i := 32) (by rw [List.length_map]; exact hk32) (by omega) (gA (k := 32) (i := 0) (by rw [List.length_map]; exact mk32) (by omega) (rfl))))) ?_
    refine tx_q 5 rfl (by kernel_rfl) rfl rfl rfl (fun _ _ _ h => h) (y_fldN (o := 0) 65 rfl (by kernel_rfl)) ?_
    refine tx_l 6 rfl (by kernel_rfl) (by kernel_rfl) rfl rfl rfl (fun _ _ _ h => h) (fun _ h => h.sub (List.Sublist.refl _)) (y_load rfl rfl (hc (o := 65) (.head _) (gA (k := 32) (i := 33) (by rw [List.length_map]; exact hk32) (by omega) (gA (k := 32) (i := 1) (by rw [List.length_map]; exact mk32) (by omega) (rfl))))) ?_
    refine tx_q 7 rfl (by kernel_rfl) rfl rfl rfl (fun _ _ _ h => h) (y_fldN (o := 0) 66 rfl (by kernel_rfl)) ?_
    refine tx_l 8 rfl (by kernel_rfl) (by kernel_rfl) rfl rfl rfl (fun _ _ _ h => h) (fun _ h => h.sub (List.Sublist.refl _)) (y_loadA (vs := N.map B) 16 rfl (by kernel_rfl) lenP (hseg (pre := hk.map B ++ (mk.map B ++ ([B kind, Str name]))) (post := [bv]) (.head _) lenP (by simp))) ?_
    refine tx_q 9 rfl (by kernel_rfl) rfl rfl rfl (fun _ _ _ h => h) (y_move rfl) ?_
    refine tx_all (is := [2, 10]) (by kernel_rfl) rfl ⟨⟨_, rfl, rfl, ?_⟩, ⟨_, rfl, rfl, ?_⟩, trivial⟩
    · skip
      skip; refine a_callv [] _ rfl (by kernel_rfl) rfl (fun w' hw' => to_spec (hk := hk) (mk := mk) lenP lenP) rfl fun _ _ => ?_
      refine tk_S (fun _ h => h.sub (List.Sublist.refl _)) ?_
      refine tx_a 10 rfl (by kernel_rfl) rfl ?_; refine a_slitN (vs := [cutR bv 0 (min bs.length 150)]) rfl (List.forall_mem_cons.2 ⟨(RdS.one (RdS.cutBh hb.1 (hi := min bs.length 150) (by omega))), (fun _ h => nomatch h)⟩) (EL45) rfl rfl (by decide) fun b54 => ?_
      refine tk_S (fun _ h => h.sub (.cons _ (List.Sublist.refl _))) ?_
      refine tx_more [cel b54 ([cutR bv 0 (min bs.length 150)]) 26, cel b2 (hk.map B ++ (mk.map B ++ ([B kind, Str name] ++ (N.map B ++ ([bv]))))) 28] (fun _ h => h.sub (.cons _ (List.Sublist.refl _))) (fun _ h => h.sub (List.Sublist.refl _)) ?_
      refine tx_a 11 rfl (by kernel_rfl) rfl ?_; refine a_callv [] _ rfl (by kernel_rfl) rfl (fun w' hw' => seal_spec (hk := hk) (mk := mk) (kind := kind) (name := name) (N := N) (ps := [(cutR bv 0 (min bs.length 150), bs.take (min bs.length 150))]) (L := bs.take (min bs.length 150)) ⟨lenP, lenP, lenP⟩ (Ro.cel (vs := [cutR bv 0 (min bs.length 150)]) hw' (.head _) (by first | rfl | simp) rfl (by decide)) (List.forall_mem_cons.2 ⟨(Ro.cutBh (Ro.call (H0 := []) hb hw') (hi := min bs.length 150) (by omega)), (fun _ h => nomatch h)⟩) (by simp) ⟨lenP, lenP, lenP⟩ (hg.call hw')) rfl fun v55 _ => ?_
      refine tk_S (fun _ h => h.sub (.cons _ (List.Sublist.refl _))) ?_
      refine tx_q 12 rfl (by kernel_rfl) rfl rfl rfl (fun _ _ _ h => h) (y_move rfl) ?_
      refine tx_q 13 rfl (by kernel_rfl) rfl rfl rfl (fun _ _ _ h => h) (y_extract rfl rfl) ?_
      refine tx_q 14 rfl (by kernel_rfl) rfl rfl rfl (fun _ _ _ h => h) (y_extract rfl rfl) ?_
      refine tx_q 15 rfl (by kernel_rfl) rfl rfl rfl (fun _ _ _ h => h) (y_assign rfl) ?_
      refine tx_q 16 rfl (by kernel_rfl) rfl rfl rfl (fun _ _ _ h => h) (y_assign rfl) ?_
      refine tx_done (by kernel_rfl) ?_
      refine tk_then ?_
      refine tk_seq ?_
      refine tk_drawH [own v55 (((sealF hk mk kind name N (bs.take (min bs.length 150))).1).length) (((sealF hk mk kind name N (bs.take (min bs.length 150))).1).map B) 5 1, cel b54 ([cutR bv 0 (min bs.length 150)]) 26, cel b2 (hk.map B ++ (mk.map B ++ ([B kind, Str name] ++ (N.map B ++ ([bv]))))) 28] [] (by kernel_rfl) ?_
      refine tx_q 0 rfl (by kernel_rfl) rfl rfl rfl (fun _ _ _ h => h) (y_fld0 (o := 0) rfl (by kernel_rfl)) ?_
      refine tx_l 1 rfl (by kernel_rfl) (by kernel_rfl) rfl rfl rfl (fun _ _ _ h => h) (fun _ h => h.sub (List.Sublist.refl _)) (y_loadA (vs := hk.map B ++ (mk.map B)) 64 rfl (by kernel_rfl) lenP (hseg (pre := ([] : List Value)) (post := [B kind, Str name] ++ (N.map B ++ ([bv]))) (.tail _ (.tail _ (.head _))) lenP (by simp))) ?_
      refine tx_q 3 rfl (by kernel_rfl) rfl rfl rfl (fun _ _ _ h => h) (y_fldN (o := 0) 64 rfl (by kernel_rfl)) ?_
      refine tx_l 4 rfl (by kernel_rfl) (by kernel_rfl) rfl rfl rfl (fun _ _ _ h => h) (fun _ h => h.sub (List.Sublist.refl _)) (y_load rfl rfl (hc (o := 64) (.tail _ (.tail _ (.head _))) (gA (k := 32) (i := 32) (by rw [List.length_map]; exact hk32) (by omega) (gA (k := 32) (i := 0) (by rw [List.length_map]; exact mk32) (by omega) (rfl))))) ?_
      refine tx_q 5 rfl (by kernel_rfl) rfl rfl rfl (fun _ _ _ h => h) (y_fldN (o := 0) 65 rfl (by kernel_rfl)) ?_
      refine tx_l 6 rfl (by kernel_rfl) (by kernel_rfl) rfl rfl rfl (fun _ _ _ h => h) (fun _ h => h.sub (List.Sublist.refl _)) (y_load rfl rfl (hc (o := 65) (.tail _ (.tail _ (.head _))) (gA (k := 32) (i := 33) (by rw [List.length_map]; exact hk32) (by omega) (gA (k := 32) (i := 1) (by rw [List.length_map]; exact mk32) (by omega) (rfl))))) ?_
      refine tx_q 7 rfl (by kernel_rfl) rfl rfl rfl (fun _ _ _ h => h) (y_fldN (o := 0) 66 rfl (by kernel_rfl)) ?_
      refine tx_l 8 rfl (by kernel_rfl) (by kernel_rfl) rfl rfl rfl (fun _ _ _ h => h) (fun _ h => h.sub (List.Sublist.refl _)) (y_loadA (vs := N.map B) 16 rfl (by kernel_rfl) lenP (hseg (pre := hk.map B ++ (mk.map B ++ ([B kind, Str name]))) (post := [bv]) (.tail _ (.tail _ (.head _))) lenP (by simp))) ?_
      refine tx_q 9 rfl (by kernel_rfl) rfl rfl rfl (fun _ _ _ h => h) (y_move rfl) ?_
      refine tx_q 10 rfl (by kernel_rfl) rfl rfl rfl (fun _ _ _ h => h) (y_move rfl) ?_
      refine tx_q 11 rfl (by kernel_rfl) rfl rfl rfl (fun _ _ _ h => h) (y_cutRBh (l := bs.take (min bs.length 150)) m rfl rfl (RdS.cutBh hb.1 (hi := min bs.length 150) (by omega)) (by kernel_rfl) lenP rfl) ?_
      refine tx_q 12 rfl (by kernel_rfl) rfl rfl rfl (fun _ _ _ h => h) (y_move rfl) ?_
      refine tx_q 13 rfl (by kernel_rfl) rfl rfl rfl (fun _ _ _ h => h) (y_move rfl) ?_
      refine tx_q 14 rfl (by kernel_rfl) rfl rfl rfl (fun _ _ _ h => h) (y_cutRBl (l := bs.take (min bs.length 150)) m rfl rfl (RdS.cutBh hb.1 (hi := min bs.length 150) (by omega)) (by kernel_rfl) lenP rfl) ?_
      refine tx_all (is := [2, 15]) (by kernel_rfl) rfl ⟨⟨_, rfl, rfl, ?_⟩, ⟨_, rfl, rfl, ?_⟩, trivial⟩
      · skip
        skip; refine a_callv [] _ rfl (by kernel_rfl) rfl (fun w' hw' => to_spec (hk := hk) (mk := mk) lenP lenP) rfl fun _ _ => ?_
        refine tk_S (fun _ h => h.sub (List.Sublist.refl _)) ?_
        refine tx_a 15 rfl (by kernel_rfl) rfl ?_; refine a_slitN (vs := [cutR (cutR bv 0 (min bs.length 150)) 0 m, .slice none 0 0, cutR (cutR bv 0 (min bs.length 150)) m ((bs.take (min bs.length 150)).length)]) rfl (List.forall_mem_cons.2 ⟨(RdS.one (RdS.cutBh (RdS.cutBh hb.1 (hi := min bs.length 150) (by omega)) (hi := m) lenP)), (List.forall_mem_cons.2 ⟨(RdS.one (RdS.nil (w := default))), (List.forall_mem_cons.2 ⟨(RdS.one (RdS.cutBl (RdS.cutBh hb.1 (hi := min bs.length 150) (by omega)) (lo := m) lenP)), (fun _ h => nomatch h)⟩)⟩)⟩) (EL45) rfl rfl (by decide) fun b74 => ?_
        refine tk_S (fun _ h => h.sub (.cons _ (List.Sublist.refl _))) ?_
        refine tx_more [cel b74 ([cutR (cutR bv 0 (min bs.length 150)) 0 m, .slice none 0 0, cutR (cutR bv 0 (min bs.length 150)) m ((bs.take (min bs.length 150)).length)]) 26, own v55 (((sealF hk mk kind name N (bs.take (min bs.length 150))).1).length) (((sealF hk mk kind name N (bs.take (min bs.length 150))).1).map B) 5 1, cel b54 ([cutR bv 0 (min bs.length 150)]) 26, cel b2 (hk.map B ++ (mk.map B ++ ([B kind, Str name] ++ (N.map B ++ ([bv]))))) 28] (fun _ h => h.sub (.cons _ (List.Sublist.refl _))) (fun _ h => h.sub (List.Sublist.refl _)) ?_
        refine tx_a 16 rfl (by kernel_rfl) rfl ?_; refine a_callv [] _ rfl (by kernel_rfl) rfl (fun w' hw' => seal_spec (hk := hk) (mk := mk) (kind := kind) (name := name) (N := N) (ps := [(cutR (cutR bv 0 (min bs.length 150)) 0 m, (bs.take (min bs.length 150)).take m), (.slice none 0 0, []), (cutR (cutR bv 0 (min bs.length 150)) m ((bs.take (min bs.length 150)).length), (bs.take (min bs.length 150)).drop m)]) (L := ((bs.take (min bs.length 150)).take m) ++ ((bs.take (min bs.length 150)).drop m)) ⟨lenP, lenP, lenP⟩ (Ro.cel (vs := [cutR (cutR bv 0 (min bs.length 150)) 0 m, .slice none 0 0, cutR (cutR bv 0 (min bs.length 150)) m ((bs.take (min bs.length 150)).length)]) hw' (.head _) (by first | rfl | simp) rfl (by decide)) (List.forall_mem_cons.2 ⟨(Ro.cutBh (Ro.cutBh (Ro.call (H0 := []) hb hw') (hi := min bs.length 150) (by omega)) (hi := m) lenP), (List.forall_mem_cons.2 ⟨Ro.rnil, (List.forall_mem_cons.2 ⟨(Ro.cutBl (Ro.cutBh (Ro.call (H0 := []) hb hw') (hi := min bs.length 150) (by omega)) (lo := m) lenP), (fun _ h => nomatch h)⟩)⟩)⟩) (by simp) ⟨lenP, lenP, lenP⟩ (hg.call hw')) rfl fun v75 _ => ?_
        refine tk_S (fun _ h => h.sub (.cons _ (List.Sublist.refl _))) ?_
        refine tk_H [own v75 (((sealF hk mk kind name N (bs.take (min bs.length 150))).1).length) (((sealF hk mk kind name N (bs.take (min bs.length 150))).1).map B) 5 1, cel b74 ([cutR (cutR bv 0 (min bs.length 150)) 0 m, .slice none 0 0, cutR (cutR bv 0 (min bs.length 150)) m ((bs.take (min bs.length 150)).length)]) 26, own v55 (((sealF hk mk kind name N (bs.take (min bs.length 150))).1).length) (((sealF hk mk kind name N (bs.take (min bs.length 150))).1).map B) 5 1, cel b54 ([cutR bv 0 (min bs.length 150)]) 26, cel b2 (hk.map B ++ (mk.map B ++ ([B kind, Str name] ++ (N.map B ++ ([bv]))))) 28] (congrArg (fun z_ => [z_, cel b74 ([cutR (cutR bv 0 (min bs.length 150)) 0 m, .slice none 0 0, cutR (cutR bv 0 (min bs.length 150)) m ((bs.take (min bs.length 150)).length)]) 26, own v55 (((sealF hk mk kind name N (bs.take (min bs.length 150))).1).length) (((sealF hk mk kind name N (bs.take (min bs.length 150))).1).map B) 5 1, cel b54 ([cutR bv 0 (min bs.length 150)]) 26, cel b2 (hk.map B ++ (mk.map B ++ ([B kind, Str name] ++ (N.map B ++ ([bv]))))) 28]) (show own v75 (((sealF hk mk kind name N (((bs.take (min bs.length 150)).take m) ++ ((bs.take (min bs.length 150)).drop m))).1).length) (((sealF hk mk kind name N (((bs.take (min bs.length 150)).take m) ++ ((bs.take (min bs.length 150)).drop m))).1).map B) 5 1 = own v75 (((sealF hk mk kind name N (bs.take (min bs.length 150))).1).length) (((sealF hk mk kind name N (bs.take (min bs.length 150))).1).map B) 5 1 from ownM_cast (by rw [List.take_append_drop]))) ?_
        refine tk_re 75 (.tuple #[v75, I (((sealF hk mk kind name N (((bs.take (min bs.length 150)).take m) ++ ((bs.take (min bs.length 150)).drop m))).2 : Nat) : Int)]) (.tuple #[v75, I (((sealF hk mk kind name N (bs.take (min bs.length 150))).2 : Nat) : Int)]) rfl (by rw [List.take_append_drop]) ?_
        refine tx_q 17 rfl (by kernel_rfl) rfl rfl rfl (fun _ _ _ h => h) (y_move rfl) ?_
        refine tx_q 18 rfl (by kernel_rfl) rfl rfl rfl (fun _ _ _ h => h) (y_extract rfl rfl) ?_
        refine tx_q 19 rfl (by kernel_rfl) rfl rfl rfl (fun _ _ _ h => h) (y_extract rfl rfl) ?_
        refine tx_q 20 rfl (by kernel_rfl) rfl rfl rfl (fun _ _ _ h => h) (y_assign rfl) ?_
        refine tx_q 21 rfl (by kernel_rfl) rfl rfl rfl (fun _ _ _ h => h) (y_assign rfl) ?_
        refine tx_done (by kernel_rfl) ?_
        refine tk_then ?_
        refine tk_seq ?_
        refine tk_region ?_
        refine tk_act rfl ?_; refine a_callv [] _ rfl (by kernel_rfl) rfl (fun w' hw' => waxes_spec (hg.call hw')) rfl fun _ _ => ?_
        refine tk_q rfl rfl rfl (y_move rfl) ?_
        refine tk_gq rfl rfl rfl (y_move rfl) ?_
        refine tk_gq rfl rfl rfl (y_str (l := (sealF hk mk kind name N (bs.take (min bs.length 150))).1) rfl rfl rfl rfl (fun w hw => own_rdS (hw.mem (.tail _ (.tail _ (.head _)))))) ?_
        refine tk_gq rfl rfl rfl (y_move rfl) ?_
        refine tk_gq rfl rfl rfl ((y_strEq (l := (sealF hk mk kind name N (bs.take (min bs.length 150))).1) (m := (sealF hk mk kind name N (bs.take (min bs.length 150))).1) rfl rfl).cast (bool_t rfl)) ?_
        refine tk_q rfl rfl rfl (y_pick1 rfl rfl) ?_
        refine tk_q rfl rfl rfl (y_move rfl) ?_
        refine tk_gq rfl rfl rfl (y_move rfl) ?_
        refine tk_gq rfl rfl rfl (y_move rfl) ?_
        refine tk_gq rfl rfl rfl ((y_eql rfl rfl).cast (bool_t rfl)) ?_
        refine tk_q rfl rfl rfl (y_pick1 rfl rfl) ?_
        refine tk_q rfl rfl rfl (y_move rfl) ?_
        refine tk_gq rfl rfl rfl (y_move rfl) ?_
        refine tk_gq rfl rfl rfl (y_str (l := (sealF hk mk kind name N (bs.take (min bs.length 150))).1) rfl rfl rfl rfl (fun w hw => own_rdS (hw.mem (.head _)))) ?_
        refine tk_gq rfl rfl rfl (y_move rfl) ?_
        refine tk_gq rfl rfl rfl ((y_strEq (l := (sealF hk mk kind name N (bs.take (min bs.length 150))).1) (m := (sealF hk mk kind name N (bs.take (min bs.length 150))).1) rfl rfl).cast (bool_t rfl)) ?_
        refine tk_q rfl rfl rfl (y_pick1 rfl rfl) ?_
        refine tk_q rfl rfl rfl (y_move rfl) ?_
        refine tk_gq rfl rfl rfl (y_move rfl) ?_
        refine tk_gq rfl rfl rfl (y_move rfl) ?_
        refine tk_gq rfl rfl rfl ((y_eql rfl rfl).cast (bool_t rfl)) ?_
        refine tk_q rfl rfl rfl (y_pick1 rfl rfl) ?_
        refine tk_q rfl rfl rfl (y_assign rfl) ?_
        refine tk_nil ?_
        refine tk_then ?_
        refine tk_retc ?_
        exact tk_ret (()) (trivial) (.inl rfl) (r1 rfl rfl) (List.nil_sublist _)
      · skip
        skip; refine a_slitN (vs := [cutR (cutR bv 0 (min bs.length 150)) 0 m, .slice none 0 0, cutR (cutR bv 0 (min bs.length 150)) m ((bs.take (min bs.length 150)).length)]) rfl (List.forall_mem_cons.2 ⟨(RdS.one (RdS.cutBh (RdS.cutBh hb.1 (hi := min bs.length 150) (by omega)) (hi := m) lenP)), (List.forall_mem_cons.2 ⟨(RdS.one (RdS.nil (w := default))), (List.forall_mem_cons.2 ⟨(RdS.one (RdS.cutBl (RdS.cutBh hb.1 (hi := min bs.length 150) (by omega)) (lo := m) lenP)), (fun _ h => nomatch h)⟩)⟩)⟩) (EL45) rfl rfl (by decide) fun b74 => ?_
        refine tk_S (fun _ h => h.sub (.cons _ (List.Sublist.refl _))) ?_
        refine tx_more [cel b74 ([cutR (cutR bv 0 (min bs.length 150)) 0 m, .slice none 0 0, cutR (cutR bv 0 (min bs.length 150)) m ((bs.take (min bs.length 150)).length)]) 26, own v55 (((sealF hk mk kind name N (bs.take (min bs.length 150))).1).length) (((sealF hk mk kind name N (bs.take (min bs.length 150))).1).map B) 5 1, cel b54 ([cutR bv 0 (min bs.length 150)]) 26, cel b2 (hk.map B ++ (mk.map B ++ ([B kind, Str name] ++ (N.map B ++ ([bv]))))) 28] (fun _ h => h.sub (.cons _ (List.Sublist.refl _))) (fun _ h => h.sub (List.Sublist.refl _)) ?_
        refine tx_a 2 rfl (by kernel_rfl) rfl ?_; refine a_callv [] _ rfl (by kernel_rfl) rfl (fun w' hw' => to_spec (hk := hk) (mk := mk) lenP lenP) rfl fun _ _ => ?_
        refine tk_S (fun _ h => h.sub (List.Sublist.refl _)) ?_
        refine tx_a 16 rfl (by kernel_rfl) rfl ?_; refine a_callv [] _ rfl (by kernel_rfl) rfl (fun w' hw' => seal_spec (hk := hk) (mk := mk) (kind := kind) (name := name) (N := N) (ps := [(cutR (cutR bv 0 (min bs.length 150)) 0 m, (bs.take (min bs.length 150)).take m), (.slice none 0 0, []), (cutR (cutR bv 0 (min bs.length 150)) m ((bs.take (min bs.length 150)).length), (bs.take (min bs.length 150)).drop m)]) (L := ((bs.take (min bs.length 150)).take m) ++ ((bs.take (min bs.length 150)).drop m)) ⟨lenP, lenP, lenP⟩ (Ro.cel (vs := [cutR (cutR bv 0 (min bs.length 150)) 0 m, .slice none 0 0, cutR (cutR bv 0 (min bs.length 150)) m ((bs.take (min bs.length 150)).length)]) hw' (.head _) (by first | rfl | simp) rfl (by decide)) (List.forall_mem_cons.2 ⟨(Ro.cutBh (Ro.cutBh (Ro.call (H0 := []) hb hw') (hi := min bs.length 150) (by omega)) (hi := m) lenP), (List.forall_mem_cons.2 ⟨Ro.rnil, (List.forall_mem_cons.2 ⟨(Ro.cutBl (Ro.cutBh (Ro.call (H0 := []) hb hw') (hi := min bs.length 150) (by omega)) (lo := m) lenP), (fun _ h => nomatch h)⟩)⟩)⟩) (by simp) ⟨lenP, lenP, lenP⟩ (hg.call hw')) rfl fun v75 _ => ?_
        refine tk_S (fun _ h => h.sub (.cons _ (List.Sublist.refl _))) ?_
        refine tk_H [own v75 (((sealF hk mk kind name N (bs.take (min bs.length 150))).1).length) (((sealF hk mk kind name N (bs.take (min bs.length 150))).1).map B) 5 1, cel b74 ([cutR (cutR bv 0 (min bs.length 150)) 0 m, .slice none 0 0, cutR (cutR bv 0 (min bs.length 150)) m ((bs.take (min bs.length 150)).length)]) 26, own v55 (((sealF hk mk kind name N (bs.take (min bs.length 150))).1).length) (((sealF hk mk kind name N (bs.take (min bs.length 150))).1).map B) 5 1, cel b54 ([cutR bv 0 (min bs.length 150)]) 26, cel b2 (hk.map B ++ (mk.map B ++ ([B kind, Str name] ++ (N.map B ++ ([bv]))))) 28] (congrArg (fun z_ => [z_, cel b74 ([cutR (cutR bv 0 (min bs.length 150)) 0 m, .slice none 0 0, cutR (cutR bv 0 (min bs.length 150)) m ((bs.take (min bs.length 150)).length)]) 26, own v55 (((sealF hk mk kind name N (bs.take (min bs.length 150))).1).length) (((sealF hk mk kind name N (bs.take (min bs.length 150))).1).map B) 5 1, cel b54 ([cutR bv 0 (min bs.length 150)]) 26, cel b2 (hk.map B ++ (mk.map B ++ ([B kind, Str name] ++ (N.map B ++ ([bv]))))) 28]) (show own v75 (((sealF hk mk kind name N (((bs.take (min bs.length 150)).take m) ++ ((bs.take (min bs.length 150)).drop m))).1).length) (((sealF hk mk kind name N (((bs.take (min bs.length 150)).take m) ++ ((bs.take (min bs.length 150)).drop m))).1).map B) 5 1 = own v75 (((sealF hk mk kind name N (bs.take (min bs.length 150))).1).length) (((sealF hk mk kind name N (bs.take (min bs.length 150))).1).map B) 5 1 from ownM_cast (by rw [List.take_append_drop]))) ?_
        refine tk_re 75 (.tuple #[v75, I (((sealF hk mk kind name N (((bs.take (min bs.length 150)).take m) ++ ((bs.take (min bs.length 150)).drop m))).2 : Nat) : Int)]) (.tuple #[v75, I (((sealF hk mk kind name N (bs.take (min bs.length 150))).2 : Nat) : Int)]) rfl (by rw [List.take_append_drop]) ?_
        refine tx_q 17 rfl (by kernel_rfl) rfl rfl rfl (fun _ _ _ h => h) (y_move rfl) ?_
        refine tx_q 18 rfl (by kernel_rfl) rfl rfl rfl (fun _ _ _ h => h) (y_extract rfl rfl) ?_
        refine tx_q 19 rfl (by kernel_rfl) rfl rfl rfl (fun _ _ _ h => h) (y_extract rfl rfl) ?_
        refine tx_q 20 rfl (by kernel_rfl) rfl rfl rfl (fun _ _ _ h => h) (y_assign rfl) ?_
        refine tx_q 21 rfl (by kernel_rfl) rfl rfl rfl (fun _ _ _ h => h) (y_assign rfl) ?_
        refine tx_done (by kernel_rfl) ?_
        refine tk_then ?_
        refine tk_seq ?_
        refine tk_region ?_
        refine tk_act rfl ?_; refine a_callv [] _ rfl (by kernel_rfl) rfl (fun w' hw' => waxes_spec (hg.call hw')) rfl fun _ _ => ?_
        refine tk_q rfl rfl rfl (y_move rfl) ?_
        refine tk_gq rfl rfl rfl (y_move rfl) ?_
        refine tk_gq rfl rfl rfl (y_str (l := (sealF hk mk kind name N (bs.take (min bs.length 150))).1) rfl rfl rfl rfl (fun w hw => own_rdS (hw.mem (.tail _ (.tail _ (.head _)))))) ?_
        refine tk_gq rfl rfl rfl (y_move rfl) ?_
        refine tk_gq rfl rfl rfl ((y_strEq (l := (sealF hk mk kind name N (bs.take (min bs.length 150))).1) (m := (sealF hk mk kind name N (bs.take (min bs.length 150))).1) rfl rfl).cast (bool_t rfl)) ?_
        refine tk_q rfl rfl rfl (y_pick1 rfl rfl) ?_
        refine tk_q rfl rfl rfl (y_move rfl) ?_
        refine tk_gq rfl rfl rfl (y_move rfl) ?_
        refine tk_gq rfl rfl rfl (y_move rfl) ?_
        refine tk_gq rfl rfl rfl ((y_eql rfl rfl).cast (bool_t rfl)) ?_
        refine tk_q rfl rfl rfl (y_pick1 rfl rfl) ?_
        refine tk_q rfl rfl rfl (y_move rfl) ?_
        refine tk_gq rfl rfl rfl (y_move rfl) ?_
        refine tk_gq rfl rfl rfl (y_str (l := (sealF hk mk kind name N (bs.take (min bs.length 150))).1) rfl rfl rfl rfl (fun w hw => own_rdS (hw.mem (.head _)))) ?_
        refine tk_gq rfl rfl rfl (y_move rfl) ?_
        refine tk_gq rfl rfl rfl ((y_strEq (l := (sealF hk mk kind name N (bs.take (min bs.length 150))).1) (m := (sealF hk mk kind name N (bs.take (min bs.length 150))).1) rfl rfl).cast (bool_t rfl)) ?_
        refine tk_q rfl rfl rfl (y_pick1 rfl rfl) ?_
        refine tk_q rfl rfl rfl (y_move rfl) ?_
        refine tk_gq rfl rfl rfl (y_move rfl) ?_
        refine tk_gq rfl rfl rfl (y_move rfl) ?_
        refine tk_gq rfl rfl rfl ((y_eql rfl rfl).cast (bool_t rfl)) ?_
        refine tk_q rfl rfl rfl (y_pick1 rfl rfl) ?_
        refine tk_q rfl rfl rfl (y_assign rfl) ?_
        refine tk_nil ?_
        refine tk_then ?_
        refine tk_retc ?_
        exact tk_ret (()) (trivial) (.inl rfl) (r1 rfl rfl) (List.nil_sublist _)
    · skip
      skip; refine a_slitN (vs := [cutR bv 0 (min bs.length 150)]) rfl (List.forall_mem_cons.2 ⟨(RdS.one (RdS.cutBh hb.1 (hi := min bs.length 150) (by omega))), (fun _ h => nomatch h)⟩) (EL45) rfl rfl (by decide) fun b54 => ?_
      refine tk_S (fun _ h => h.sub (.cons _ (List.Sublist.refl _))) ?_
      refine tx_more [cel b54 ([cutR bv 0 (min bs.length 150)]) 26, cel b2 (hk.map B ++ (mk.map B ++ ([B kind, Str name] ++ (N.map B ++ ([bv]))))) 28] (fun _ h => h.sub (.cons _ (List.Sublist.refl _))) (fun _ h => h.sub (List.Sublist.refl _)) ?_
      refine tx_a 2 rfl (by kernel_rfl) rfl ?_; refine a_callv [] _ rfl (by kernel_rfl) rfl (fun w' hw' => to_spec (hk := hk) (mk := mk) lenP lenP) rfl fun _ _ => ?_
      refine tk_S (fun _ h => h.sub (List.Sublist.refl _)) ?_
      refine tx_a 11 rfl (by kernel_rfl) rfl ?_; refine a_callv [] _ rfl (by kernel_rfl) rfl (fun w' hw' => seal_spec (hk := hk) (mk := mk) (kind := kind) (name := name) (N := N) (ps := [(cutR bv 0 (min bs.length 150), bs.take (min bs.length 150))]) (L := bs.take (min bs.length 150)) ⟨lenP, lenP, lenP⟩ (Ro.cel (vs := [cutR bv 0 (min bs.length 150)]) hw' (.head _) (by first | rfl | simp) rfl (by decide)) (List.forall_mem_cons.2 ⟨(Ro.cutBh (Ro.call (H0 := []) hb hw') (hi := min bs.length 150) (by omega)), (fun _ h => nomatch h)⟩) (by simp) ⟨lenP, lenP, lenP⟩ (hg.call hw')) rfl fun v55 _ => ?_
      refine tk_S (fun _ h => h.sub (.cons _ (List.Sublist.refl _))) ?_
      refine tx_q 12 rfl (by kernel_rfl) rfl rfl rfl (fun _ _ _ h => h) (y_move rfl) ?_
      refine tx_q 13 rfl (by kernel_rfl) rfl rfl rfl (fun _ _ _ h => h) (y_extract rfl rfl) ?_
      refine tx_q 14 rfl (by kernel_rfl) rfl rfl rfl (fun _ _ _ h => h) (y_extract rfl rfl) ?_
      refine tx_q 15 rfl (by kernel_rfl) rfl rfl rfl (fun _ _ _ h => h) (y_assign rfl) ?_
      refine tx_q 16 rfl (by kernel_rfl) rfl rfl rfl (fun _ _ _ h => h) (y_assign rfl) ?_
      refine tx_done (by kernel_rfl) ?_
      refine tk_then ?_
      refine tk_seq ?_
      refine tk_drawH [own v55 (((sealF hk mk kind name N (bs.take (min bs.length 150))).1).length) (((sealF hk mk kind name N (bs.take (min bs.length 150))).1).map B) 5 1, cel b54 ([cutR bv 0 (min bs.length 150)]) 26, cel b2 (hk.map B ++ (mk.map B ++ ([B kind, Str name] ++ (N.map B ++ ([bv]))))) 28] [] (by kernel_rfl) ?_
      refine tx_q 0 rfl (by kernel_rfl) rfl rfl rfl (fun _ _ _ h => h) (y_fld0 (o := 0) rfl (by kernel_rfl)) ?_
      refine tx_l 1 rfl (by kernel_rfl) (by kernel_rfl) rfl rfl rfl (fun _ _ _ h => h) (fun _ h => h.sub (List.Sublist.refl _)) (y_loadA (vs := hk.map B ++ (mk.map B)) 64 rfl (by kernel_rfl) lenP (hseg (pre := ([] : List Value)) (post := [B kind, Str name] ++ (N.map B ++ ([bv]))) (.tail _ (.tail _ (.head _))) lenP (by simp))) ?_
      refine tx_q 3 rfl (by kernel_rfl) rfl rfl rfl (fun _ _ _ h => h) (y_fldN (o := 0) 64 rfl (by kernel_rfl)) ?_
      refine tx_l 4 rfl (by kernel_rfl) (by kernel_rfl) rfl rfl rfl (fun _ _ _ h => h) (fun _ h => h.sub (List.Sublist.refl _)) (y_load rfl rfl (hc (o := 64) (.tail _ (.tail _ (.head _))) (gA (k := 32) (i := 32) (by rw [List.length_map]; exact hk32) (by omega) (gA (k := 32) (i := 0) (by rw [List.length_map]; exact mk32) (by omega) (rfl))))) ?_
      refine tx_q 5 rfl (by kernel_rfl) rfl rfl rfl (fun _ _ _ h => h) (y_fldN (o := 0) 65 rfl (by kernel_rfl)) ?_
      refine tx_l 6 rfl (by kernel_rfl) (by kernel_rfl) rfl rfl rfl (fun _ _ _ h => h) (fun _ h => h.sub (List.Sublist.refl _)) (y_load rfl rfl (hc (o := 65) (.tail _ (.tail _ (.head _))) (gA (k := 32) (i := 33) (by rw [List.length_map]; exact hk32) (by omega) (gA (k := 32) (i := 1) (by rw [List.length_map]; exact mk32) (by omega) (rfl))))) ?_
      refine tx_q 7 rfl (by kernel_rfl) rfl rfl rfl (fun _ _ _ h => h) (y_fldN (o := 0) 66 rfl (by kernel_rfl)) ?_
      refine tx_l 8 rfl (by kernel_rfl) (by kernel_rfl) rfl rfl rfl (fun _ _ _ h => h) (fun _ h => h.sub (List.Sublist.refl _)) (y_loadA (vs := N.map B) 16 rfl (by kernel_rfl) lenP (hseg (pre := hk.map B ++ (mk.map B ++ ([B kind, Str name]))) (post := [bv]) (.tail _ (.tail _ (.head _))) lenP (by simp))) ?_
      refine tx_q 9 rfl (by kernel_rfl) rfl rfl rfl (fun _ _ _ h => h) (y_move rfl) ?_
      refine tx_q 10 rfl (by kernel_rfl) rfl rfl rfl (fun _ _ _ h => h) (y_move rfl) ?_
      refine tx_q 11 rfl (by kernel_rfl) rfl rfl rfl (fun _ _ _ h => h) (y_cutRBh (l := bs.take (min bs.length 150)) m rfl rfl (RdS.cutBh hb.1 (hi := min bs.length 150) (by omega)) (by kernel_rfl) lenP rfl) ?_
      refine tx_q 12 rfl (by kernel_rfl) rfl rfl rfl (fun _ _ _ h => h) (y_move rfl) ?_
      refine tx_q 13 rfl (by kernel_rfl) rfl rfl rfl (fun _ _ _ h => h) (y_move rfl) ?_
      refine tx_q 14 rfl (by kernel_rfl) rfl rfl rfl (fun _ _ _ h => h) (y_cutRBl (l := bs.take (min bs.length 150)) m rfl rfl (RdS.cutBh hb.1 (hi := min bs.length 150) (by omega)) (by kernel_rfl) lenP rfl) ?_
      refine tx_all (is := [2, 15]) (by kernel_rfl) rfl ⟨⟨_, rfl, rfl, ?_⟩, ⟨_, rfl, rfl, ?_⟩, trivial⟩
      · skip
        skip; refine a_callv [] _ rfl (by kernel_rfl) rfl (fun w' hw' => to_spec (hk := hk) (mk := mk) lenP lenP) rfl fun _ _ => ?_
        refine tk_S (fun _ h => h.sub (List.Sublist.refl _)) ?_
        refine tx_a 15 rfl (by kernel_rfl) rfl ?_; refine a_slitN (vs := [cutR (cutR bv 0 (min bs.length 150)) 0 m, .slice none 0 0, cutR (cutR bv 0 (min bs.length 150)) m ((bs.take (min bs.length 150)).length)]) rfl (List.forall_mem_cons.2 ⟨(RdS.one (RdS.cutBh (RdS.cutBh hb.1 (hi := min bs.length 150) (by omega)) (hi := m) lenP)), (List.forall_mem_cons.2 ⟨(RdS.one (RdS.nil (w := default))), (List.forall_mem_cons.2 ⟨(RdS.one (RdS.cutBl (RdS.cutBh hb.1 (hi := min bs.length 150) (by omega)) (lo := m) lenP)), (fun _ h => nomatch h)⟩)⟩)⟩) (EL45) rfl rfl (by decide) fun b74 => ?_
        refine tk_S (fun _ h => h.sub (.cons _ (List.Sublist.refl _))) ?_
        refine tx_more [cel b74 ([cutR (cutR bv 0 (min bs.length 150)) 0 m, .slice none 0 0, cutR (cutR bv 0 (min bs.length 150)) m ((bs.take (min bs.length 150)).length)]) 26, own v55 (((sealF hk mk kind name N (bs.take (min bs.length 150))).1).length) (((sealF hk mk kind name N (bs.take (min bs.length 150))).1).map B) 5 1, cel b54 ([cutR bv 0 (min bs.length 150)]) 26, cel b2 (hk.map B ++ (mk.map B ++ ([B kind, Str name] ++ (N.map B ++ ([bv]))))) 28] (fun _ h => h.sub (.cons _ (List.Sublist.refl _))) (fun _ h => h.sub (List.Sublist.refl _)) ?_
        refine tx_a 16 rfl (by kernel_rfl) rfl ?_; refine a_callv [] _ rfl (by kernel_rfl) rfl (fun w' hw' => seal_spec (hk := hk) (mk := mk) (kind := kind) (name := name) (N := N) (ps := [(cutR (cutR bv 0 (min bs.length 150)) 0 m, (bs.take (min bs.length 150)).take m), (.slice none 0 0, []), (cutR (cutR bv 0 (min bs.length 150)) m ((bs.take (min bs.length 150)).length), (bs.take (min bs.length 150)).drop m)]) (L := ((bs.take (min bs.length 150)).take m) ++ ((bs.take (min bs.length 150)).drop m)) ⟨lenP, lenP, lenP⟩ (Ro.cel (vs := [cutR (cutR bv 0 (min bs.length 150)) 0 m, .slice none 0 0, cutR (cutR bv 0 (min bs.length 150)) m ((bs.take (min bs.length 150)).length)]) hw' (.head _) (by first | rfl | simp) rfl (by decide)) (List.forall_mem_cons.2 ⟨(Ro.cutBh (Ro.cutBh (Ro.call (H0 := []) hb hw') (hi := min bs.length 150) (by omega)) (hi := m) lenP), (List.forall_mem_cons.2 ⟨Ro.rnil, (List.forall_mem_cons.2 ⟨(Ro.cutBl (Ro.cutBh (Ro.call (H0 := []) hb hw') (hi := min bs.length 150) (by omega)) (lo := m) lenP), (fun _ h => nomatch h)⟩)⟩)⟩) (by simp) ⟨lenP, lenP, lenP⟩ (hg.call hw')) rfl fun v75 _ => ?_
        refine tk_S (fun _ h => h.sub (.cons _ (List.Sublist.refl _))) ?_
        refine tk_H [own v75 (((sealF hk mk kind name N (bs.take (min bs.length 150))).1).length) (((sealF hk mk kind name N (bs.take (min bs.length 150))).1).map B) 5 1, cel b74 ([cutR (cutR bv 0 (min bs.length 150)) 0 m, .slice none 0 0, cutR (cutR bv 0 (min bs.length 150)) m ((bs.take (min bs.length 150)).length)]) 26, own v55 (((sealF hk mk kind name N (bs.take (min bs.length 150))).1).length) (((sealF hk mk kind name N (bs.take (min bs.length 150))).1).map B) 5 1, cel b54 ([cutR bv 0 (min bs.length 150)]) 26, cel b2 (hk.map B ++ (mk.map B ++ ([B kind, Str name] ++ (N.map B ++ ([bv]))))) 28] (congrArg (fun z_ => [z_, cel b74 ([cutR (cutR bv 0 (min bs.length 150)) 0 m, .slice none 0 0, cutR (cutR bv 0 (min bs.length 150)) m ((bs.take (min bs.length 150)).length)]) 26, own v55 (((sealF hk mk kind name N (bs.take (min bs.length 150))).1).length) (((sealF hk mk kind name N (bs.take (min bs.length 150))).1).map B) 5 1, cel b54 ([cutR bv 0 (min bs.length 150)]) 26, cel b2 (hk.map B ++ (mk.map B ++ ([B kind, Str name] ++ (N.map B ++ ([bv]))))) 28]) (show own v75 (((sealF hk mk kind name N (((bs.take (min bs.length 150)).take m) ++ ((bs.take (min bs.length 150)).drop m))).1).length) (((sealF hk mk kind name N (((bs.take (min bs.length 150)).take m) ++ ((bs.take (min bs.length 150)).drop m))).1).map B) 5 1 = own v75 (((sealF hk mk kind name N (bs.take (min bs.length 150))).1).length) (((sealF hk mk kind name N (bs.take (min bs.length 150))).1).map B) 5 1 from ownM_cast (by rw [List.take_append_drop]))) ?_
        refine tk_re 75 (.tuple #[v75, I (((sealF hk mk kind name N (((bs.take (min bs.length 150)).take m) ++ ((bs.take (min bs.length 150)).drop m))).2 : Nat) : Int)]) (.tuple #[v75, I (((sealF hk mk kind name N (bs.take (min bs.length 150))).2 : Nat) : Int)]) rfl (by rw [List.take_append_drop]) ?_
        refine tx_q 17 rfl (by kernel_rfl) rfl rfl rfl (fun _ _ _ h => h) (y_move rfl) ?_
        refine tx_q 18 rfl (by kernel_rfl) rfl rfl rfl (fun _ _ _ h => h) (y_extract rfl rfl) ?_
        refine tx_q 19 rfl (by kernel_rfl) rfl rfl rfl (fun _ _ _ h => h) (y_extract rfl rfl) ?_
        refine tx_q 20 rfl (by kernel_rfl) rfl rfl rfl (fun _ _ _ h => h) (y_assign rfl) ?_
        refine tx_q 21 rfl (by kernel_rfl) rfl rfl rfl (fun _ _ _ h => h) (y_assign rfl) ?_
        refine tx_done (by kernel_rfl) ?_
        refine tk_then ?_
        refine tk_seq ?_
        refine tk_region ?_
        refine tk_act rfl ?_; refine a_callv [] _ rfl (by kernel_rfl) rfl (fun w' hw' => waxes_spec (hg.call hw')) rfl fun _ _ => ?_
        refine tk_q rfl rfl rfl (y_move rfl) ?_
        refine tk_gq rfl rfl rfl (y_move rfl) ?_
        refine tk_gq rfl rfl rfl (y_str (l := (sealF hk mk kind name N (bs.take (min bs.length 150))).1) rfl rfl rfl rfl (fun w hw => own_rdS (hw.mem (.tail _ (.tail _ (.head _)))))) ?_
        refine tk_gq rfl rfl rfl (y_move rfl) ?_
        refine tk_gq rfl rfl rfl ((y_strEq (l := (sealF hk mk kind name N (bs.take (min bs.length 150))).1) (m := (sealF hk mk kind name N (bs.take (min bs.length 150))).1) rfl rfl).cast (bool_t rfl)) ?_
        refine tk_q rfl rfl rfl (y_pick1 rfl rfl) ?_
        refine tk_q rfl rfl rfl (y_move rfl) ?_
        refine tk_gq rfl rfl rfl (y_move rfl) ?_
        refine tk_gq rfl rfl rfl (y_move rfl) ?_
        refine tk_gq rfl rfl rfl ((y_eql rfl rfl).cast (bool_t rfl)) ?_
        refine tk_q rfl rfl rfl (y_pick1 rfl rfl) ?_
        refine tk_q rfl rfl rfl (y_move rfl) ?_
        refine tk_gq rfl rfl rfl (y_move rfl) ?_
        refine tk_gq rfl rfl rfl (y_str (l := (sealF hk mk kind name N (bs.take (min bs.length 150))).1) rfl rfl rfl rfl (fun w hw => own_rdS (hw.mem (.head _)))) ?_
        refine tk_gq rfl rfl rfl (y_move rfl) ?_
        refine tk_gq rfl rfl rfl ((y_strEq (l := (sealF hk mk kind name N (bs.take (min bs.length 150))).1) (m := (sealF hk mk kind name N (bs.take (min bs.length 150))).1) rfl rfl).cast (bool_t rfl)) ?_
        refine tk_q rfl rfl rfl (y_pick1 rfl rfl) ?_
        refine tk_q rfl rfl rfl (y_move rfl) ?_
        refine tk_gq rfl rfl rfl (y_move rfl) ?_
        refine tk_gq rfl rfl rfl (y_move rfl) ?_
        refine tk_gq rfl rfl rfl ((y_eql rfl rfl).cast (bool_t rfl)) ?_
        refine tk_q rfl rfl rfl (y_pick1 rfl rfl) ?_
        refine tk_q rfl rfl rfl (y_assign rfl) ?_
        refine tk_nil ?_
        refine tk_then ?_
        refine tk_retc ?_
        exact tk_ret (()) (trivial) (.inl rfl) (r1 rfl rfl) (List.nil_sublist _)
      · skip
        skip; refine a_slitN (vs := [cutR (cutR bv 0 (min bs.length 150)) 0 m, .slice none 0 0, cutR (cutR bv 0 (min bs.length 150)) m ((bs.take (min bs.length 150)).length)]) rfl (List.forall_mem_cons.2 ⟨(RdS.one (RdS.cutBh (RdS.cutBh hb.1 (hi := min bs.length 150) (by omega)) (hi := m) lenP)), (List.forall_mem_cons.2 ⟨(RdS.one (RdS.nil (w := default))), (List.forall_mem_cons.2 ⟨(RdS.one (RdS.cutBl (RdS.cutBh hb.1 (hi := min bs.length 150) (by omega)) (lo := m) lenP)), (fun _ h => nomatch h)⟩)⟩)⟩) (EL45) rfl rfl (by decide) fun b74 => ?_
        refine tk_S (fun _ h => h.sub (.cons _ (List.Sublist.refl _))) ?_
        refine tx_more [cel b74 ([cutR (cutR bv 0 (min bs.length 150)) 0 m, .slice none 0 0, cutR (cutR bv 0 (min bs.length 150)) m ((bs.take (min bs.length 150)).length)]) 26, own v55 (((sealF hk mk kind name N (bs.take (min bs.length 150))).1).length) (((sealF hk mk kind name N (bs.take (min bs.length 150))).1).map B) 5 1, cel b54 ([cutR bv 0 (min bs.length 150)]) 26, cel b2 (hk.map B ++ (mk.map B ++ ([B kind, Str name] ++ (N.map B ++ ([bv]))))) 28] (fun _ h => h.sub (.cons _ (List.Sublist.refl _))) (fun _ h => h.sub (List.Sublist.refl _)) ?_
        refine tx_a 2 rfl (by kernel_rfl) rfl ?_; refine a_callv [] _ rfl (by kernel_rfl) rfl (fun w' hw' => to_spec (hk := hk) (mk := mk) lenP lenP) rfl fun _ _ => ?_
        refine tk_S (fun _ h => h.sub (List.Sublist.refl _)) ?_
        refine tx_a 16 rfl (by kernel_rfl) rfl ?_; refine a_callv [] _ rfl (by kernel_rfl) rfl (fun w' hw' => seal_spec (hk := hk) (mk := mk) (kind := kind) (name := name) (N := N) (ps := [(cutR (cutR bv 0 (min bs.length 150)) 0 m, (bs.take (min bs.length 150)).take m), (.slice none 0 0, []), (cutR (cutR bv 0 (min bs.length 150)) m ((bs.take (min bs.length 150)).length), (bs.take (min bs.length 150)).drop m)]) (L := ((bs.take (min bs.length 150)).take m) ++ ((bs.take (min bs.length 150)).drop m)) ⟨lenP, lenP, lenP⟩ (Ro.cel (vs := [cutR (cutR bv 0 (min bs.length 150)) 0 m, .slice none 0 0, cutR (cutR bv 0 (min bs.length 150)) m ((bs.take (min bs.length 150)).length)]) hw' (.head _) (by first | rfl | simp) rfl (by decide)) (List.forall_mem_cons.2 ⟨(Ro.cutBh (Ro.cutBh (Ro.call (H0 := []) hb hw') (hi := min bs.length 150) (by omega)) (hi := m) lenP), (List.forall_mem_cons.2 ⟨Ro.rnil, (List.forall_mem_cons.2 ⟨(Ro.cutBl (Ro.cutBh (Ro.call (H0 := []) hb hw') (hi := min bs.length 150) (by omega)) (lo := m) lenP), (fun _ h => nomatch h)⟩)⟩)⟩) (by simp) ⟨lenP, lenP, lenP⟩ (hg.call hw')) rfl fun v75 _ => ?_
        refine tk_S (fun _ h => h.sub (.cons _ (List.Sublist.refl _))) ?_
        refine tk_H [own v75 (((sealF hk mk kind name N (bs.take (min bs.length 150))).1).length) (((sealF hk mk kind name N (bs.take (min bs.length 150))).1).map B) 5 1, cel b74 ([cutR (cutR bv 0 (min bs.length 150)) 0 m, .slice none 0 0, cutR (cutR bv 0 (min bs.length 150)) m ((bs.take (min bs.length 150)).length)]) 26, own v55 (((sealF hk mk kind name N (bs.take (min bs.length 150))).1).length) (((sealF hk mk kind name N (bs.take (min bs.length 150))).1).map B) 5 1, cel b54 ([cutR bv 0 (min bs.length 150)]) 26, cel b2 (hk.map B ++ (mk.map B ++ ([B kind, Str name] ++ (N.map B ++ ([bv]))))) 28] (congrArg (fun z_ => [z_, cel b74 ([cutR (cutR bv 0 (min bs.length 150)) 0 m, .slice none 0 0, cutR (cutR bv 0 (min bs.length 150)) m ((bs.take (min bs.length 150)).length)]) 26, own v55 (((sealF hk mk kind name N (bs.take (min bs.length 150))).1).length) (((sealF hk mk kind name N (bs.take (min bs.length 150))).1).map B) 5 1, cel b54 ([cutR bv 0 (min bs.length 150)]) 26, cel b2 (hk.map B ++ (mk.map B ++ ([B kind, Str name] ++ (N.map B ++ ([bv]))))) 28]) (show own v75 (((sealF hk mk kind name N (((bs.take (min bs.length 150)).take m) ++ ((bs.take (min bs.length 150)).drop m))).1).length) (((sealF hk mk kind name N (((bs.take (min bs.length 150)).take m) ++ ((bs.take (min bs.length 150)).drop m))).1).map B) 5 1 = own v75 (((sealF hk mk kind name N (bs.take (min bs.length 150))).1).length) (((sealF hk mk kind name N (bs.take (min bs.length 150))).1).map B) 5 1 from ownM_cast (by rw [List.take_append_drop]))) ?_
        refine tk_re 75 (.tuple #[v75, I (((sealF hk mk kind name N (((bs.take (min bs.length 150)).take m) ++ ((bs.take (min bs.length 150)).drop m))).2 : Nat) : Int)]) (.tuple #[v75, I (((sealF hk mk kind name N (bs.take (min bs.length 150))).2 : Nat) : Int)]) rfl (by rw [List.take_append_drop]) ?_
        refine tx_q 17 rfl (by kernel_rfl) rfl rfl rfl (fun _ _ _ h => h) (y_move rfl) ?_
        refine tx_q 18 rfl (by kernel_rfl) rfl rfl rfl (fun _ _ _ h => h) (y_extract rfl rfl) ?_
        refine tx_q 19 rfl (by kernel_rfl) rfl rfl rfl (fun _ _ _ h => h) (y_extract rfl rfl) ?_
        refine tx_q 20 rfl (by kernel_rfl) rfl rfl rfl (fun _ _ _ h => h) (y_assign rfl) ?_
        refine tx_q 21 rfl (by kernel_rfl) rfl rfl rfl (fun _ _ _ h => h) (y_assign rfl) ?_
        refine tx_done (by kernel_rfl) ?_
        refine tk_then ?_
        refine tk_seq ?_
        refine tk_region ?_
        refine tk_act rfl ?_; refine a_callv [] _ rfl (by kernel_rfl) rfl (fun w' hw' => waxes_spec (hg.call hw')) rfl fun _ _ => ?_
        refine tk_q rfl rfl rfl (y_move rfl) ?_
        refine tk_gq rfl rfl rfl (y_move rfl) ?_
        refine tk_gq rfl rfl rfl (y_str (l := (sealF hk mk kind name N (bs.take (min bs.length 150))).1) rfl rfl rfl rfl (fun w hw => own_rdS (hw.mem (.tail _ (.tail _ (.head _)))))) ?_
        refine tk_gq rfl rfl rfl (y_move rfl) ?_
        refine tk_gq rfl rfl rfl ((y_strEq (l := (sealF hk mk kind name N (bs.take (min bs.length 150))).1) (m := (sealF hk mk kind name N (bs.take (min bs.length 150))).1) rfl rfl).cast (bool_t rfl)) ?_
        refine tk_q rfl rfl rfl (y_pick1 rfl rfl) ?_
        refine tk_q rfl rfl rfl (y_move rfl) ?_
        refine tk_gq rfl rfl rfl (y_move rfl) ?_
        refine tk_gq rfl rfl rfl (y_move rfl) ?_
        refine tk_gq rfl rfl rfl ((y_eql rfl rfl).cast (bool_t rfl)) ?_
        refine tk_q rfl rfl rfl (y_pick1 rfl rfl) ?_
        refine tk_q rfl rfl rfl (y_move rfl) ?_
        refine tk_gq rfl rfl rfl (y_move rfl) ?_
        refine tk_gq rfl rfl rfl (y_str (l := (sealF hk mk kind name N (bs.take (min bs.length 150))).1) rfl rfl rfl rfl (fun w hw => own_rdS (hw.mem (.head _)))) ?_
        refine tk_gq rfl rfl rfl (y_move rfl) ?_
        refine tk_gq rfl rfl rfl ((y_strEq (l := (sealF hk mk kind name N (bs.take (min bs.length 150))).1) (m := (sealF hk mk kind name N (bs.take (min bs.length 150))).1) rfl rfl).cast (bool_t rfl)) ?_
        refine tk_q rfl rfl rfl (y_pick1 rfl rfl) ?_
        refine tk_q rfl rfl rfl (y_move rfl) ?_
        refine tk_gq rfl rfl rfl (y_move rfl) ?_
        refine tk_gq rfl rfl rfl (y_move rfl) ?_
        refine tk_gq rfl rfl rfl ((y_eql rfl rfl).cast (bool_t rfl)) ?_
        refine tk_q rfl rfl rfl (y_pick1 rfl rfl) ?_
        refine tk_q rfl rfl rfl (y_assign rfl) ?_
        refine tk_nil ?_
        refine tk_then ?_
        refine tk_retc ?_
        exact tk_ret (()) (trivial) (.inl rfl) (r1 rfl rfl) (List.nil_sublist _)
theorem waxOpens_spec {hk mk name N bs : List UInt8} {kind : UInt8} {bv : Value} {w : World} (hk32 : hk.length = 32) (mk32 : mk.length = 32) (hN : N.length = 16) (hb : Ro (Fs []) w (rdB bv bs)) (hg : Ro (Fs []) w glob) (hnl : name.length < 9223372036854775808) (hbl : bs.length < 9223372036854775808) : Spec Tryd.prog 4 [.agg (hk.map B ++ (mk.map B ++ ([B kind, Str name] ++ (N.map B ++ [bv])))).toArray] w [] (fun _ : Unit => True) (fun _ => .bool true) (fun _ => []) := by
  refine spec_of (n := 56) Tryd.func4 rfl rfl trivial trivial rfl ?_
  refine tk_seq ?_
  refine tk_region ?_
  refine tk_act rfl ?_; refine a_boxL (cs := hk.map B ++ (mk.map B ++ ([B kind, Str name] ++ (N.map B ++ ([bv]))))) rfl rfl fun b1 => ?_
  refine tk_q rfl rfl rfl (y_assign rfl) ?_
  refine tk_nil ?_
  refine tk_then ?_
  refine tk_seq ?_
  refine tk_seq ?_
  refine tk_region ?_
  refine tk_q rfl rfl rfl (y_fldN (o := 0) 65 rfl (by kernel_rfl)) ?_
  refine tk_q rfl rfl rfl (y_load rfl rfl (hc (o := 65) (.head _) (gA (k := 32) (i := 33) (by rw [List.length_map]; exact hk32) (by omega) (gA (k := 32) (i := 1) (by rw [List.length_map]; exact mk32) (by omega) (rfl))))) ?_
  refine tk_q rfl rfl rfl (y_lenStr (l := name) rfl rfl) ?_
  refine tk_q rfl rfl rfl (y_gtr rfl rfl) ?_
  refine tk_nil ?_
  refine tk_then ?_
  refine tk_condP rfl (fun ht11 => ?_) (fun ht11 => ?_)
  · skip
    refine tk_seq ?_
    refine tk_region ?_
    refine tk_act rfl ?_; refine a_callv [] _ rfl (by kernel_rfl) rfl (fun w' hw' => waxes_spec (hg.call hw')) rfl fun _ _ => ?_
    refine tk_q rfl rfl rfl (y_assign rfl) ?_
    refine tk_nil ?_
    refine tk_then ?_
    refine tk_retc ?_
    refine tk_then_ret ?_
    exact tk_ret (()) (trivial) (.inl rfl) (r1 rfl rfl) (List.nil_sublist _)
  · skip
    refine tk_skip ?_
    refine tk_then ?_
    refine tk_seq ?_
    refine tk_region ?_
    refine tk_q rfl rfl rfl (y_fldN (o := 0) 82 rfl (by kernel_rfl)) ?_
    refine tk_q rfl rfl rfl (y_load rfl rfl (hc (o := 82) (.head _) (gA (k := 32) (i := 50) (by rw [List.length_map]; exact hk32) (by omega) (gA (k := 32) (i := 18) (by rw [List.length_map]; exact mk32) (by omega) (gA (k := 2) (i := 16) rfl (by omega) (gA (k := 16) (i := 0) (by rw [List.length_map]; exact hN) (by omega) (rfl))))))) ?_
    refine tk_q rfl rfl rfl (y_fldN (o := 0) 82 rfl (by kernel_rfl)) ?_
    refine tk_q rfl rfl rfl (y_load rfl rfl (hc (o := 82) (.head _) (gA (k := 32) (i := 50) (by rw [List.length_map]; exact hk32) (by omega) (gA (k := 32) (i := 18) (by rw [List.length_map]; exact mk32) (by omega) (gA (k := 2) (i := 16) rfl (by omega) (gA (k := 16) (i := 0) (by rw [List.length_map]; exact hN) (by omega) (rfl))))))) ?_
    refine tk_q rfl rfl rfl (y_lenRN (n' := bs.length) rfl hb.1 rfl (by first | rfl | (rw [List.length_map]; omega) | simp)) ?_
    refine tk_q rfl rfl rfl (y_minN (a := bs.length) (b := 250) rfl rfl) ?_
    refine tk_q rfl rfl rfl (y_cutRBh (l := bs) (min bs.length 250) rfl rfl hb.1 (by kernel_rfl) lenP rfl) ?_
    refine tk_q rfl rfl rfl (y_assign rfl) ?_
    refine tk_nil ?_
    refine tk_then ?_
    refine tk_seq ?_
    refine tk_region ?_
    refine tk_q rfl rfl rfl (y_fld0 (o := 0) rfl (by kernel_rfl)) ?_
    refine tk_q rfl rfl rfl (y_loadA (vs := hk.map B ++ (mk.map B)) 64 rfl (by kernel_rfl) lenP (hseg (pre := ([] : List Value)) (post := [B kind, Str name] ++ (N.map B ++ ([bv]))) (.head _) lenP (by simp))) ?_
    refine tk_q rfl rfl rfl (y_fldN (o := 0) 64 rfl (by kernel_rfl)) ?_
    refine tk_q rfl rfl rfl (y_load rfl rfl (hc (o := 64) (.head _) (gA (k := 32) (i := 32) (by rw [List.length_map]; exact hk32) (by omega) (gA (k := 32) (i := 0) (by rw [List.length_map]; exact mk32) (by omega) (rfl))))) ?_
    refine tk_q rfl rfl rfl (y_fldN (o := 0) 65 rfl (by kernel_rfl)) ?_
    refine tk_q rfl rfl rfl (y_load rfl rfl (hc (o := 65) (.head _) (gA (k := 32) (i := 33) (by rw [List.length_map]; exact hk32) (by omega) (gA (k := 32) (i := 1) (by rw [List.length_map]; exact mk32) (by omega) (rfl))))) ?_
    refine tk_q rfl rfl rfl (y_move rfl) ?_
    refine tk_q rfl rfl rfl (y_str (l := bs.take (min bs.length 250)) rfl rfl rfl rfl (fun w hw => RdS.cutBh ((fun w hw => Ro.rd hb hw) w hw) (hi := min bs.length 250) lenP)) ?_
    refine tk_act rfl ?_; refine a_callv [] _ rfl (by kernel_rfl) rfl (fun w' hw' => dopen_spec (hk := hk) (mk := mk) (kind := kind) (name := name) (b := bs.take (min bs.length 250)) ⟨lenP, lenP⟩ ⟨lenP, lenP⟩) rfl fun _ _ => ?_
    refine tk_q rfl rfl rfl (y_move rfl) ?_
    refine tk_q rfl rfl rfl (y_extract rfl rfl) ?_
    refine tk_q rfl rfl rfl (y_extract rfl rfl) ?_
    refine tk_q rfl rfl rfl (y_assign rfl) ?_
    refine tk_q rfl rfl rfl (y_assign rfl) ?_
    refine tk_nil ?_
    refine tk_then ?_
    refine tk_seq ?_
    refine tk_drawH [cel b1 (hk.map B ++ (mk.map B ++ ([B kind, Str name] ++ (N.map B ++ ([bv]))))) 28] [] (by kernel_rfl) ?_
    refine tx_q 0 rfl (by kernel_rfl) rfl rfl rfl (fun _ _ _ h => h) (y_fld0 (o := 0) rfl (by kernel_rfl)) ?_
    refine tx_l 1 rfl (by kernel_rfl) (by kernel_rfl) rfl rfl rfl (fun _ _ _ h => h) (fun _ h => h.sub (List.Sublist.refl _)) (y_loadA (vs := hk.map B ++ (mk.map B)) 64 rfl (by kernel_rfl) lenP (hseg (pre := ([] : List Value)) (post := [B kind, Str name] ++ (N.map B ++ ([bv]))) (.head _) lenP (by simp))) ?_
    refine tx_q 3 rfl (by kernel_rfl) rfl rfl rfl (fun _ _ _ h => h) (y_fldN (o := 0) 64 rfl (by kernel_rfl)) ?_
    refine tx_l 4 rfl (by kernel_rfl) (by kernel_rfl) rfl rfl rfl (fun _ _ _ h => h) (fun _ h => h.sub (List.Sublist.refl _)) (y_load rfl rfl (hc (o := 64) (.head _) (gA (k := 32) (i := 32) (by rw [List.length_map]; exact hk32) (by omega) (gA (k := 32) (i := 0) (by rw [List.length_map]; exact mk32) (by omega) (rfl))))) ?_
    refine tx_q 5 rfl (by kernel_rfl) rfl rfl rfl (fun _ _ _ h => h) (y_fldN (o := 0) 65 rfl (by kernel_rfl)) ?_
    refine tx_l 6 rfl (by kernel_rfl) (by kernel_rfl) rfl rfl rfl (fun _ _ _ h => h) (fun _ h => h.sub (List.Sublist.refl _)) (y_load rfl rfl (hc (o := 65) (.head _) (gA (k := 32) (i := 33) (by rw [List.length_map]; exact hk32) (by omega) (gA (k := 32) (i := 1) (by rw [List.length_map]; exact mk32) (by omega) (rfl))))) ?_
    refine tx_q 7 rfl (by kernel_rfl) rfl rfl rfl (fun _ _ _ h => h) (y_move rfl) ?_
    refine tx_a 2 rfl (by kernel_rfl) rfl ?_; refine a_callv [] _ rfl (by kernel_rfl) rfl (fun w' hw' => to_spec (hk := hk) (mk := mk) lenP lenP) rfl fun _ _ => ?_
    refine tk_S (fun _ h => h.sub (List.Sublist.refl _)) ?_
    refine tx_a 8 rfl (by kernel_rfl) rfl ?_; refine a_callv [] _ rfl (by kernel_rfl) rfl (fun w' hw' => open_spec (hk := hk) (mk := mk) (kind := kind) (name := name) (b := bs.take (min bs.length 250)) ⟨lenP, lenP⟩ (Ro.cutBh (Ro.call (H0 := []) hb hw') (hi := min bs.length 250) lenP) ⟨lenP, lenP⟩ (hg.call hw')) rfl fun v41 _ => ?_
    refine tk_S (fun _ h => h.sub (.cons _ (List.Sublist.refl _))) ?_
    refine tx_q 9 rfl (by kernel_rfl) rfl rfl rfl (fun _ _ _ h => h) (y_move rfl) ?_
    refine tx_q 10 rfl (by kernel_rfl) rfl rfl rfl (fun _ _ _ h => h) (y_extract rfl rfl) ?_
    refine tx_q 11 rfl (by kernel_rfl) rfl rfl rfl (fun _ _ _ h => h) (y_extract rfl rfl) ?_
    refine tx_q 12 rfl (by kernel_rfl) rfl rfl rfl (fun _ _ _ h => h) (y_assign rfl) ?_
    refine tx_q 13 rfl (by kernel_rfl) rfl rfl rfl (fun _ _ _ h => h) (y_assign rfl) ?_
    refine tx_done (by kernel_rfl) ?_
    refine tk_then ?_
    refine tk_seq ?_
    refine tk_region ?_
    refine tk_act rfl ?_; refine a_callv [] _ rfl (by kernel_rfl) rfl (fun w' hw' => waxes_spec (hg.call hw')) rfl fun _ _ => ?_
    refine tk_q rfl rfl rfl (y_move rfl) ?_
    refine tk_gq rfl rfl rfl (y_move rfl) ?_
    refine tk_gq rfl rfl rfl (y_move rfl) ?_
    refine tk_gq rfl rfl rfl (y_str (l := (openF hk mk kind name (bs.take (min bs.length 250))).1) rfl rfl rfl rfl (fun w hw => own_rdS (hw.mem (.head _)))) ?_
    refine tk_gq rfl rfl rfl ((y_strEq (l := (openF hk mk kind name (bs.take (min bs.length 250))).1) (m := (openF hk mk kind name (bs.take (min bs.length 250))).1) rfl rfl).cast (bool_t rfl)) ?_
    refine tk_q rfl rfl rfl (y_pick1 rfl rfl) ?_
    refine tk_q rfl rfl rfl (y_move rfl) ?_
    refine tk_gq rfl rfl rfl (y_move rfl) ?_
    refine tk_gq rfl rfl rfl (y_move rfl) ?_
    refine tk_gq rfl rfl rfl ((y_eql rfl rfl).cast (bool_t rfl)) ?_
    refine tk_q rfl rfl rfl (y_pick1 rfl rfl) ?_
    refine tk_q rfl rfl rfl (y_assign rfl) ?_
    refine tk_nil ?_
    refine tk_then ?_
    refine tk_retc ?_
    exact tk_ret (()) (trivial) (.inl rfl) (r1 rfl rfl) (List.nil_sublist _)
end Go.Proofs.YtfofkjajlfphjaaDoor

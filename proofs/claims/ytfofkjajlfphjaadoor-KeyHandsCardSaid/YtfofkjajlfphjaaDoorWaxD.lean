/- wax: the walks over the laws WaxBack and WaxLengths. -/
import Derived.Test.YtfofkjajlfphjaaDoorWaxC
set_option linter.unusedSimpArgs false
set_option linter.unusedVariables false
namespace Go.Proofs.YtfofkjajlfphjaaDoor
open Go Go.RowKit
set_option maxRecDepth 100000
attribute [local irreducible] hidL markL sealL sealF openF keyedL Cip.keyW Cip.hideL
theorem waxBack_spec {hk mk name N bs : List UInt8} {kind : UInt8} {bv : Value} {w : World} (hk32 : hk.length = 32) (mk32 : mk.length = 32) (hN : N.length = 16) (hb : Ro (Fs []) w (rdB bv bs)) (hg : Ro (Fs []) w glob) (hnl : name.length < 9223372036854775808) (hbl : bs.length < 9223372036854775808) : Spec Tryd.prog 5 [.agg (hk.map B ++ (mk.map B ++ ([B kind, Str name] ++ (N.map B ++ [bv])))).toArray] w [] (fun _ : Unit => True) (fun _ => .bool true) (fun _ => []) := by
  refine spec_of (n := 130) Tryd.func5 rfl rfl trivial trivial rfl ?_
  refine tk_seq ?_
  refine tk_region ?_
  refine tk_act rfl ?_; refine a_boxL (cs := hk.map B ++ (mk.map B ++ ([B kind, Str name] ++ (N.map B ++ ([bv]))))) rfl rfl fun b1 => ?_
  refine tk_q rfl rfl rfl (y_assign rfl) ?_
  refine tk_nil ?_
  refine tk_then ?_
  refine tk_seq ?_
  refine tk_region ?_
  refine tk_q rfl rfl rfl (y_fldN (o := 0) 65 rfl (by kernel_rfl)) ?_
  refine tk_q rfl rfl rfl (y_load rfl rfl (hc (o := 65) (.head _) (gA (k := 32) (i := 33) (by rw [List.length_map]; exact hk32) (by omega) (gA (k := 32) (i := 1) (by rw [List.length_map]; exact mk32) (by omega) (rfl))))) ?_
  refine tk_q rfl rfl rfl (y_fldN (o := 0) 65 rfl (by kernel_rfl)) ?_
  refine tk_q rfl rfl rfl (y_load rfl rfl (hc (o := 65) (.head _) (gA (k := 32) (i := 33) (by rw [List.length_map]; exact hk32) (by omega) (gA (k := 32) (i := 1) (by rw [List.length_map]; exact mk32) (by omega) (rfl))))) ?_
  refine tk_q rfl rfl rfl (y_lenStr (l := name) rfl rfl) ?_
  refine tk_q rfl rfl rfl (y_minN (a := name.length) (b := 255) rfl rfl) ?_
  refine tk_q rfl rfl rfl (y_cutTh (l := name) (hi := min name.length 255) rfl rfl rfl (by omega)) ?_
  obtain ⟨nm, hnm⟩ : ∃ nm, nm = name.take (min name.length 255) := ⟨_, rfl⟩
  have hnm2 : nm.length ≤ 255 := by rw [hnm]; simp; omega
  refine tk_re 18 (Str (name.take (min name.length 255))) (Str nm) rfl (by rw [hnm]) ?_
  refine tk_q rfl rfl rfl (y_assign rfl) ?_
  refine tk_nil ?_
  refine tk_then ?_
  refine tk_seq ?_
  refine tk_region ?_
  refine tk_act rfl ?_; refine a_slit0 EL26 rfl fun v19 => ?_
  refine tk_q rfl rfl rfl (y_fldN (o := 0) 82 rfl (by kernel_rfl)) ?_
  refine tk_q rfl rfl rfl (y_load rfl rfl (hc (o := 82) (.tail _ (.head _)) (gA (k := 32) (i := 50) (by rw [List.length_map]; exact hk32) (by omega) (gA (k := 32) (i := 18) (by rw [List.length_map]; exact mk32) (by omega) (gA (k := 2) (i := 16) rfl (by omega) (gA (k := 16) (i := 0) (by rw [List.length_map]; exact hN) (by omega) (rfl))))))) ?_
  refine tk_q rfl rfl rfl (y_fldN (o := 0) 82 rfl (by kernel_rfl)) ?_
  refine tk_q rfl rfl rfl (y_load rfl rfl (hc (o := 82) (.tail _ (.head _)) (gA (k := 32) (i := 50) (by rw [List.length_map]; exact hk32) (by omega) (gA (k := 32) (i := 18) (by rw [List.length_map]; exact mk32) (by omega) (gA (k := 2) (i := 16) rfl (by omega) (gA (k := 16) (i := 0) (by rw [List.length_map]; exact hN) (by omega) (rfl))))))) ?_
  refine tk_q rfl rfl rfl (y_lenRN (n' := bs.length) rfl hb.1 rfl (by first | rfl | (rw [List.length_map]; omega) | simp)) ?_
  refine tk_q rfl rfl rfl (y_minN (a := bs.length) (b := 800) rfl rfl) ?_
  refine tk_q rfl rfl rfl (y_cutRBh (l := bs) (min bs.length 800) rfl rfl hb.1 (by kernel_rfl) lenP rfl) ?_
  refine tk_act rfl ?_; refine a_appM (H1 := []) (f := B) (l := []) (m := bs.take (min bs.length 800)) rfl rfl EL26 rfl rfl (fun w hw => RdS.cutBh ((fun w hw => Ro.rd hb hw) w hw) (hi := min bs.length 800) lenP) (fun _ => rfl) ⟨lenP, lenP⟩ fun v27 => ?_
  refine tk_own1 (.head _) fun hfv27 => ?_
  obtain ⟨b, hb0⟩ : ∃ b, b = bs.take (min bs.length 800) := ⟨_, rfl⟩
  have hbl2 : b.length ≤ 800 := by rw [hb0]; simp; omega
  have hbl3 : b.length ≤ bs.length := by rw [hb0]; simp; omega
  have hbt : b = bs.take b.length := by rw [hb0, List.length_take]; congr 1; omega
  refine tk_H [own v27 b.length (b.map B) 5 1, cel b1 (hk.map B ++ (mk.map B ++ ([B kind, Str name] ++ (N.map B ++ ([bv]))))) 28] (congrArg (fun z_ => [z_, cel b1 (hk.map B ++ (mk.map B ++ ([B kind, Str name] ++ (N.map B ++ ([bv]))))) 28]) (show own v27 ((bs.take (min bs.length 800)).length) ((bs.take (min bs.length 800)).map B) 5 1 = own v27 b.length (b.map B) 5 1 from ownM_cast hb0.symm)) ?_
  refine tk_own1 (.head _) fun hfb => ?_
  refine tk_q rfl rfl rfl (y_assign rfl) ?_
  refine tk_nil ?_
  refine tk_then ?_
  refine tk_seq ?_
  refine tk_region ?_
  refine tk_q rfl rfl rfl (y_fld0 (o := 0) rfl (by kernel_rfl)) ?_
  refine tk_q rfl rfl rfl (y_loadA (vs := hk.map B ++ (mk.map B)) 64 rfl (by kernel_rfl) lenP (hseg (pre := ([] : List Value)) (post := [B kind, Str name] ++ (N.map B ++ ([bv]))) (.tail _ (.head _)) lenP (by simp))) ?_
  refine tk_act rfl ?_; refine a_callv [] _ rfl (by kernel_rfl) rfl (fun w' hw' => to_spec (hk := hk) (mk := mk) lenP lenP) rfl fun _ _ => ?_
  refine tk_act rfl ?_; refine a_allocL (cs := (List.replicate 32 0).map B ++ ((List.replicate 32 0).map B)) (by kernel_rfl) rfl fun b5 => ?_
  refine tk_act rfl ?_; refine a_storeW (H1 := []) (vs := hk.map B ++ (mk.map B)) 64 rfl rfl (by kernel_rfl) rfl ⟨lenP, lenP⟩ (List.forall_mem_append.2 ⟨oneB, oneB⟩) ?_
  refine tk_nil ?_
  refine tk_then ?_
  refine tk_seq ?_
  refine tk_region ?_
  refine tk_q rfl rfl rfl (y_loadA 64 rfl (by kernel_rfl) lenP (hcw (.head _))) ?_
  refine tk_q rfl rfl rfl (y_fldN (o := 0) 64 rfl (by kernel_rfl)) ?_
  refine tk_q rfl rfl rfl (y_load rfl rfl (hc (o := 64) (.tail _ (.tail _ (.head _))) (gA (k := 32) (i := 32) (by rw [List.length_map]; exact hk32) (by omega) (gA (k := 32) (i := 0) (by rw [List.length_map]; exact mk32) (by omega) (rfl))))) ?_
  refine tk_q rfl rfl rfl (y_move rfl) ?_
  refine tk_q rfl rfl rfl (y_fldN (o := 0) 66 rfl (by kernel_rfl)) ?_
  refine tk_q rfl rfl rfl (y_loadA (vs := N.map B) 16 rfl (by kernel_rfl) lenP (hseg (pre := hk.map B ++ (mk.map B ++ ([B kind, Str name]))) (post := [bv]) (.tail _ (.tail _ (.head _))) lenP (by simp))) ?_
  refine tk_q rfl rfl rfl (y_move rfl) ?_
  refine tk_act rfl ?_; refine a_slitN (vs := [v27]) rfl (List.forall_mem_cons.2 ⟨(RdS.one hfb.choose_spec), (fun _ h => nomatch h)⟩) (EL45) rfl rfl (by decide) fun b39 => ?_
  refine tk_act rfl ?_; refine a_callv [] _ rfl (by kernel_rfl) rfl (fun w' hw' => seal_spec (hk := hk) (mk := mk) (kind := kind) (name := nm) (N := N) (ps := [(v27, b)]) (L := b) ⟨lenP, lenP, lenP⟩ (Ro.cel (vs := [v27]) hw' (.head _) (by first | rfl | simp) rfl (by decide)) (List.forall_mem_cons.2 ⟨(Ro.own (H0 := []) hw' (.tail _ (.tail _ (.head _)))), (fun _ h => nomatch h)⟩) (by simp) ⟨lenP, lenP, lenP⟩ (hg.call hw')) rfl fun v40 _ => ?_
  refine tk_H [own v40 ((sealL hk mk kind nm N b).length) ((sealL hk mk kind nm N b).map B) 5 1, cel b39 ([v27]) 26, cel b5 (hk.map B ++ (mk.map B)) 36, own v27 b.length (b.map B) 5 1, cel b1 (hk.map B ++ (mk.map B ++ ([B kind, Str name] ++ (N.map B ++ ([bv]))))) 28] (congrArg (fun z_ => [z_, cel b39 ([v27]) 26, cel b5 (hk.map B ++ (mk.map B)) 36, own v27 b.length (b.map B) 5 1, cel b1 (hk.map B ++ (mk.map B ++ ([B kind, Str name] ++ (N.map B ++ ([bv]))))) 28]) (show own v40 (((sealF hk mk kind nm N b).1).length) (((sealF hk mk kind nm N b).1).map B) 5 1 = own v40 ((sealL hk mk kind nm N b).length) ((sealL hk mk kind nm N b).map B) 5 1 from ownM_cast (by rw [sealF_ok lenP lenP]))) ?_
  refine tk_re 40 (.tuple #[v40, I (((sealF hk mk kind nm N b).2 : Nat) : Int)]) (.tuple #[v40, I 0]) rfl (by rw [sealF_ok lenP lenP]; rfl) ?_
  have hslv40 : (sealL hk mk kind nm N b).length = b.length + 48 := sealL_len hN
  refine tk_own1 (.head _) fun hfv40 => ?_
  refine tk_q rfl rfl rfl (y_move rfl) ?_
  refine tk_q rfl rfl rfl (y_extract rfl rfl) ?_
  refine tk_q rfl rfl rfl (y_extract rfl rfl) ?_
  refine tk_q rfl rfl rfl (y_assign rfl) ?_
  refine tk_q rfl rfl rfl (y_assign rfl) ?_
  refine tk_nil ?_
  refine tk_then ?_
  refine tk_seq ?_
  refine tk_seq ?_
  refine tk_drawH [own v40 ((sealL hk mk kind nm N b).length) ((sealL hk mk kind nm N b).map B) 5 1, cel b39 ([v27]) 26, cel b5 (hk.map B ++ (mk.map B)) 36, own v27 b.length (b.map B) 5 1, cel b1 (hk.map B ++ (mk.map B ++ ([B kind, Str name] ++ (N.map B ++ ([bv]))))) 28] [] (by kernel_rfl) ?_
  refine tx_a 0 rfl (by kernel_rfl) rfl ?_; refine a_callv [] _ rfl (by kernel_rfl) rfl (fun w' hw' => waxes_spec (hg.call hw')) rfl fun _ _ => ?_
  refine tk_S (fun _ h => h.sub (List.Sublist.refl _)) ?_
  refine tx_q 1 rfl (by kernel_rfl) rfl rfl rfl (fun _ _ _ h => h) (y_not rfl) ?_
  refine tx_q 2 rfl (by kernel_rfl) rfl rfl rfl (fun _ _ _ h => h) (y_move rfl) ?_
  refine tx_q 3 rfl (by kernel_rfl) rfl rfl rfl (fun _ _ _ h => h) (y_move rfl) ?_
  refine tx_q 4 rfl (by kernel_rfl) rfl rfl rfl (fun _ _ _ h => h) ((y_neq rfl rfl).cast (bool_f (by decide))) ?_
  refine tx_q 5 rfl (by kernel_rfl) rfl rfl rfl (fun _ _ _ h => h) (y_pick0 rfl rfl) ?_
  refine tx_q 6 rfl (by kernel_rfl) rfl rfl rfl (fun _ _ _ h => h) (y_move rfl) ?_
  refine tx_q 7 rfl (by kernel_rfl) rfl rfl rfl (fun _ _ _ h => h) (y_move rfl) ?_
  refine tx_q 8 rfl (by kernel_rfl) rfl rfl rfl (fun _ _ _ h => h) (y_lenRN (n' := (sealL hk mk kind nm N b).length) rfl hfv40.choose_spec rfl (by first | rfl | (rw [List.length_map]; omega) | simp)) ?_
  refine tx_q 9 rfl (by kernel_rfl) rfl rfl rfl (fun _ _ _ h => h) (y_move rfl) ?_
  refine tx_q 10 rfl (by kernel_rfl) rfl rfl rfl (fun _ _ _ h => h) (y_lenRN (n' := b.length) rfl hfb.choose_spec rfl (by first | rfl | (rw [List.length_map]; omega) | simp)) ?_
  refine tx_q 11 rfl (by kernel_rfl) rfl rfl rfl (fun _ _ _ h => h) (y_addN (a := b.length) (b := 48) rfl rfl (by omega)) ?_
  refine tx_q 12 rfl (by kernel_rfl) rfl rfl rfl (fun _ _ _ h => h) ((y_neq rfl rfl).cast (v := _) (u := .bool false) (bool_f (fun h => h (by rw [sealL_len hN])))) ?_
  refine tx_q 13 rfl (by kernel_rfl) rfl rfl rfl (fun _ _ _ h => h) (y_pick0 rfl rfl) ?_
  refine tx_q 14 rfl (by kernel_rfl) rfl rfl rfl (fun _ _ _ h => h) (y_move rfl) ?_
  refine tx_q 15 rfl (by kernel_rfl) rfl rfl rfl (fun _ _ _ h => h) (y_move rfl) ?_
  refine tx_q 16 rfl (by kernel_rfl) rfl rfl rfl (fun _ _ _ h => h) (y_cutRBh (l := sealL hk mk kind nm N b) 16 rfl rfl hfv40.choose_spec (by kernel_rfl) lenP rfl) ?_
  refine tx_l 17 rfl (by kernel_rfl) (by kernel_rfl) rfl rfl rfl (fun _ _ _ h => h) (fun _ h => h.sub (List.Sublist.refl _)) (y_str (l := (sealL hk mk kind nm N b).take 16) rfl rfl rfl rfl (fun w hw => RdS.cutBh ((fun w hw => own_rdS (hw.mem (.head _))) w hw) (hi := 16) lenP)) ?_
  refine tx_q 18 rfl (by kernel_rfl) rfl rfl rfl (fun _ _ _ h => h) (y_fldN (o := 0) 66 rfl (by kernel_rfl)) ?_
  refine tx_q 19 rfl (by kernel_rfl) rfl rfl rfl (fun _ _ _ h => h) (y_cutA (m := 16) (sz := 1) rfl (by kernel_rfl)) ?_
  refine tx_l 20 rfl (by kernel_rfl) (by kernel_rfl) rfl rfl rfl (fun _ _ _ h => h) (fun _ h => h.sub (List.Sublist.refl _)) (y_str (l := N) rfl rfl rfl rfl (fun w hw => cel_rdE (o := 66) (m := 16) (cp := 16) (vs := N.map B) (hw.mem (.tail _ (.tail _ (.tail _ (.tail _ (.head _)))))) (dsA (k := 32) (i := 34) (by rw [List.length_map]; exact hk32) (by omega) (dsA (k := 32) (i := 2) (by rw [List.length_map]; exact mk32) (by omega) (dsA (k := 2) (i := 0) rfl (by omega) (dsW1)))) (by first | rfl | (simp; done) | (simp; omega)) (by first | omega | (simp; done) | (simp; omega)))) ?_
  refine tx_q 21 rfl (by kernel_rfl) rfl rfl rfl (fun _ _ _ h => h) ((y_strNe (l := (sealL hk mk kind nm N b).take 16) (m := N) rfl rfl).cast (v := _) (u := .bool false) (bool_f (fun h => h (seal_cut hN).1))) ?_
  refine tx_q 22 rfl (by kernel_rfl) rfl rfl rfl (fun _ _ _ h => h) (y_pick0 rfl rfl) ?_
  refine tx_done (by kernel_rfl) ?_
  refine tk_then ?_
  refine tk_cond0 rfl ?_
  refine tk_skip ?_
  refine tk_then ?_
  refine tk_seq ?_
  refine tk_region ?_
  refine tk_q rfl rfl rfl (y_move rfl) ?_
  refine tk_q rfl rfl rfl (y_str (l := sealL hk mk kind nm N b) rfl rfl rfl rfl (fun w hw => own_rdS (hw.mem (.head _)))) ?_
  refine tk_q rfl rfl rfl (y_assign rfl) ?_
  refine tk_nil ?_
  refine tk_then ?_
  refine tk_seq ?_
  refine tk_region ?_
  refine tk_q rfl rfl rfl (y_loadA 64 rfl (by kernel_rfl) lenP (hcw (.tail _ (.tail _ (.head _))))) ?_
  refine tk_q rfl rfl rfl (y_fldN (o := 0) 64 rfl (by kernel_rfl)) ?_
  refine tk_q rfl rfl rfl (y_load rfl rfl (hc (o := 64) (.tail _ (.tail _ (.tail _ (.tail _ (.head _))))) (gA (k := 32) (i := 32) (by rw [List.length_map]; exact hk32) (by omega) (gA (k := 32) (i := 0) (by rw [List.length_map]; exact mk32) (by omega) (rfl))))) ?_
  refine tk_q rfl rfl rfl (y_move rfl) ?_
  refine tk_q rfl rfl rfl (y_move rfl) ?_
  refine tk_act rfl ?_; refine a_callv [] _ rfl (by kernel_rfl) rfl (fun w' hw' => open_spec (hk := hk) (mk := mk) (kind := kind) (name := nm) (b := sealL hk mk kind nm N b) ⟨lenP, lenP⟩ (Ro.own (H0 := []) hw' (.head _)) ⟨lenP, lenP⟩ (hg.call hw')) rfl fun v74 _ => ?_
  refine tk_H [own v74 b.length (b.map B) 5 1, own v40 ((sealL hk mk kind nm N b).length) ((sealL hk mk kind nm N b).map B) 5 1, cel b39 ([v27]) 26, cel b5 (hk.map B ++ (mk.map B)) 36, own v27 b.length (b.map B) 5 1, cel b1 (hk.map B ++ (mk.map B ++ ([B kind, Str name] ++ (N.map B ++ ([bv]))))) 28] (congrArg (fun z_ => [z_, own v40 ((sealL hk mk kind nm N b).length) ((sealL hk mk kind nm N b).map B) 5 1, cel b39 ([v27]) 26, cel b5 (hk.map B ++ (mk.map B)) 36, own v27 b.length (b.map B) 5 1, cel b1 (hk.map B ++ (mk.map B ++ ([B kind, Str name] ++ (N.map B ++ ([bv]))))) 28]) (show own v74 (((openF hk mk kind nm (sealL hk mk kind nm N b)).1).length) (((openF hk mk kind nm (sealL hk mk kind nm N b)).1).map B) 5 1 = own v74 b.length (b.map B) 5 1 from ownM_cast (by rw [open_seal hN lenP lenP]))) ?_
  refine tk_re 74 (.tuple #[v74, I (((openF hk mk kind nm (sealL hk mk kind nm N b)).2 : Nat) : Int)]) (.tuple #[v74, I 0]) rfl (by rw [open_seal hN lenP lenP]; rfl) ?_
  refine tk_own1 (.head _) fun hfv74 => ?_
  refine tk_q rfl rfl rfl (y_move rfl) ?_
  refine tk_q rfl rfl rfl (y_extract rfl rfl) ?_
  refine tk_q rfl rfl rfl (y_extract rfl rfl) ?_
  refine tk_q rfl rfl rfl (y_assign rfl) ?_
  refine tk_q rfl rfl rfl (y_assign rfl) ?_
  refine tk_nil ?_
  refine tk_then ?_
  refine tk_seq ?_
  refine tk_seq ?_
  refine tk_drawH [own v74 b.length (b.map B) 5 1, own v40 ((sealL hk mk kind nm N b).length) ((sealL hk mk kind nm N b).map B) 5 1, cel b39 ([v27]) 26, cel b5 (hk.map B ++ (mk.map B)) 36, own v27 b.length (b.map B) 5 1, cel b1 (hk.map B ++ (mk.map B ++ ([B kind, Str name] ++ (N.map B ++ ([bv]))))) 28] [] (by kernel_rfl) ?_
  refine tx_q 0 rfl (by kernel_rfl) rfl rfl rfl (fun _ _ _ h => h) (y_move rfl) ?_
  refine tx_q 1 rfl (by kernel_rfl) rfl rfl rfl (fun _ _ _ h => h) ((y_neq rfl rfl).cast (bool_f (by decide))) ?_
  refine tx_q 2 rfl (by kernel_rfl) rfl rfl rfl (fun _ _ _ h => h) (y_move rfl) ?_
  refine tx_q 3 rfl (by kernel_rfl) rfl rfl rfl (fun _ _ _ h => h) (y_move rfl) ?_
  refine tx_l 4 rfl (by kernel_rfl) (by kernel_rfl) rfl rfl rfl (fun _ _ _ h => h) (fun _ h => h.sub (List.Sublist.refl _)) (y_str (l := b) rfl rfl rfl rfl (fun w hw => own_rdS (hw.mem (.head _)))) ?_
  refine tx_q 5 rfl (by kernel_rfl) rfl rfl rfl (fun _ _ _ h => h) (y_move rfl) ?_
  refine tx_l 6 rfl (by kernel_rfl) (by kernel_rfl) rfl rfl rfl (fun _ _ _ h => h) (fun _ h => h.sub (List.Sublist.refl _)) (y_str (l := b) rfl rfl rfl rfl (fun w hw => own_rdS (hw.mem (.tail _ (.tail _ (.tail _ (.tail _ (.head _)))))))) ?_
  refine tx_q 7 rfl (by kernel_rfl) rfl rfl rfl (fun _ _ _ h => h) ((y_strNe (l := b) (m := b) rfl rfl).cast (bool_f (fun h => h rfl))) ?_
  refine tx_q 8 rfl (by kernel_rfl) rfl rfl rfl (fun _ _ _ h => h) (y_pick0 rfl rfl) ?_
  refine tx_q 9 rfl (by kernel_rfl) rfl rfl rfl (fun _ _ _ h => h) (y_move rfl) ?_
  refine tx_q 10 rfl (by kernel_rfl) rfl rfl rfl (fun _ _ _ h => h) (y_move rfl) ?_
  refine tx_l 11 rfl (by kernel_rfl) (by kernel_rfl) rfl rfl rfl (fun _ _ _ h => h) (fun _ h => h.sub (List.Sublist.refl _)) (y_str (l := sealL hk mk kind nm N b) rfl rfl rfl rfl (fun w hw => own_rdS (hw.mem (.tail _ (.head _))))) ?_
  refine tx_q 12 rfl (by kernel_rfl) rfl rfl rfl (fun _ _ _ h => h) (y_move rfl) ?_
  refine tx_q 13 rfl (by kernel_rfl) rfl rfl rfl (fun _ _ _ h => h) ((y_strNe (l := sealL hk mk kind nm N b) (m := sealL hk mk kind nm N b) rfl rfl).cast (bool_f (fun h => h rfl))) ?_
  refine tx_q 14 rfl (by kernel_rfl) rfl rfl rfl (fun _ _ _ h => h) (y_pick0 rfl rfl) ?_
  refine tx_q 15 rfl (by kernel_rfl) rfl rfl rfl (fun _ _ _ h => h) (y_move rfl) ?_
  refine tx_q 16 rfl (by kernel_rfl) rfl rfl rfl (fun _ _ _ h => h) (y_move rfl) ?_
  refine tx_l 17 rfl (by kernel_rfl) (by kernel_rfl) rfl rfl rfl (fun _ _ _ h => h) (fun _ h => h.sub (List.Sublist.refl _)) (y_str (l := b) rfl rfl rfl rfl (fun w hw => own_rdS (hw.mem (.tail _ (.tail _ (.tail _ (.tail _ (.head _)))))))) ?_
  refine tx_q 18 rfl (by kernel_rfl) rfl rfl rfl (fun _ _ _ h => h) (y_fldN (o := 0) 82 rfl (by kernel_rfl)) ?_
  refine tx_l 19 rfl (by kernel_rfl) (by kernel_rfl) rfl rfl rfl (fun _ _ _ h => h) (fun _ h => h.sub (List.Sublist.refl _)) (y_load rfl rfl (hc (o := 82) (.tail _ (.tail _ (.tail _ (.tail _ (.tail _ (.head _)))))) (gA (k := 32) (i := 50) (by rw [List.length_map]; exact hk32) (by omega) (gA (k := 32) (i := 18) (by rw [List.length_map]; exact mk32) (by omega) (gA (k := 2) (i := 16) rfl (by omega) (gA (k := 16) (i := 0) (by rw [List.length_map]; exact hN) (by omega) (rfl))))))) ?_
  refine tx_q 20 rfl (by kernel_rfl) rfl rfl rfl (fun _ _ _ h => h) (y_move rfl) ?_
  refine tx_q 21 rfl (by kernel_rfl) rfl rfl rfl (fun _ _ _ h => h) (y_lenRN (n' := b.length) rfl hfb.choose_spec rfl (by first | rfl | (rw [List.length_map]; omega) | simp)) ?_
  refine tx_q 22 rfl (by kernel_rfl) rfl rfl rfl (fun _ _ _ h => h) (y_cutRBh (l := bs) b.length rfl rfl hb.1 (by kernel_rfl) lenP rfl) ?_
  refine tx_l 23 rfl (by kernel_rfl) (by kernel_rfl) rfl rfl rfl (fun _ _ _ h => h) (fun _ h => h.sub (List.Sublist.refl _)) (y_str (l := bs.take b.length) rfl rfl rfl rfl (fun w hw => RdS.cutBh ((fun w hw => Ro.rd hb hw) w hw) (hi := b.length) lenP)) ?_
  refine tx_q 24 rfl (by kernel_rfl) rfl rfl rfl (fun _ _ _ h => h) ((y_strNe (l := b) (m := bs.take b.length) rfl rfl).cast (v := _) (u := .bool false) (bool_f (fun h => h hbt))) ?_
  refine tx_q 25 rfl (by kernel_rfl) rfl rfl rfl (fun _ _ _ h => h) (y_pick0 rfl rfl) ?_
  refine tx_done (by kernel_rfl) ?_
  refine tk_then ?_
  refine tk_cond0 rfl ?_
  refine tk_skip ?_
  refine tk_then ?_
  refine tk_seq ?_
  refine tk_seq ?_
  refine tk_region ?_
  refine tk_q rfl rfl rfl (y_assign rfl) ?_
  refine tk_nil ?_
  refine tk_then ?_
  refine tk_block ?_
  refine tk_loop (X := Nat × List UInt8) (fun (i, xs) => i ≤ b.length ∧ xs.length = b.length) (fun (i, xs) => [(1, .pointer (some ⟨b1, 0, none⟩)), (2, .bool false), (3, Str nm), (4, v27), (5, .pointer (some ⟨b5, 0, none⟩)), (6, v40), (9, v74), (10, I ((i : Nat) : Int))]) (fun (i, xs) => [own v74 xs.length (xs.map B) 5 1, own v40 ((sealL hk mk kind nm N b).length) ((sealL hk mk kind nm N b).map B) 5 1, cel b39 ([v27]) 26, cel b5 (hk.map B ++ (mk.map B)) 36, own v27 b.length (b.map B) 5 1, cel b1 (hk.map B ++ (mk.map B ++ ([B kind, Str name] ++ (N.map B ++ ([bv]))))) 28]) (fun (i, xs) => b.length - i) ((0, b)) (⟨Nat.zero_le _, rfl⟩) (by repeat (first | exact trivial | refine ⟨rfl, ?_⟩)) ((List.Sublist.refl _)) ?_
  rintro ⟨i, xs⟩ hI
  try dsimp only at hI ⊢
  refine tk_own1 (.head _) fun hfx => ?_
  refine tk_seq ?_
  refine tk_seq ?_
  refine tk_region ?_
  refine tk_q rfl rfl rfl (y_move rfl) ?_
  refine tk_q rfl rfl rfl (y_move rfl) ?_
  refine tk_q rfl rfl rfl (y_lenRN (n' := xs.length) rfl hfx.choose_spec rfl (by first | rfl | (rw [List.length_map]; omega) | simp)) ?_
  refine tk_q rfl rfl rfl (y_lss rfl rfl) ?_
  refine tk_nil ?_
  refine tk_then ?_
  refine tk_condP rfl (fun ht106 => ?_) (fun ht106 => ?_)
  · skip
    refine tk_skip ?_
    refine tk_then ?_
    refine tk_seq ?_
    refine tk_block ?_
    refine tk_region ?_
    refine tk_q rfl rfl rfl (y_move rfl) ?_
    refine tk_q rfl rfl rfl (y_move rfl) ?_
    refine tk_q rfl rfl rfl (y_ixR (j := i) rfl rfl hfx.choose_spec lenP (by kernel_rfl)) ?_
    refine tk_act rfl ?_; refine a_storeM (H1 := []) (f := B) (l := xs) (i := i) (q := 102) rfl rfl rfl (by kernel_rfl) rfl lenP ?_
    refine tk_nil ?_
    refine tk_in_normal ?_
    refine tk_then ?_
    refine tk_region ?_
    refine tk_q rfl rfl rfl (y_move rfl) ?_
    refine tk_q rfl rfl rfl (y_addN (a := i) (b := 1) rfl rfl (by omega)) ?_
    refine tk_q rfl rfl rfl (y_assign rfl) ?_
    refine tk_nil ?_
    exact tk_again ((i + 1, xs.set i 102)) (⟨by dsimp only; omega, by dsimp only; rw [List.length_set]; exact hI.2⟩) (by first | omega | (dsimp only; omega)) (by repeat (first | exact trivial | refine ⟨rfl, ?_⟩)) (List.Sublist.refl _)
  · skip
    refine tk_exit ?_
    refine tk_then_exit ?_
    refine tk_then_exit ?_
    refine tk_in_hit ?_
    refine tk_then ?_
    refine tk_seq ?_
    refine tk_region ?_
    refine tk_q rfl rfl rfl (y_loadA 64 rfl (by kernel_rfl) lenP (hcw (.tail _ (.tail _ (.tail _ (.head _)))))) ?_
    refine tk_q rfl rfl rfl (y_fldN (o := 0) 64 rfl (by kernel_rfl)) ?_
    refine tk_q rfl rfl rfl (y_load rfl rfl (hc (o := 64) (.tail _ (.tail _ (.tail _ (.tail _ (.tail _ (.head _)))))) (gA (k := 32) (i := 32) (by rw [List.length_map]; exact hk32) (by omega) (gA (k := 32) (i := 0) (by rw [List.length_map]; exact mk32) (by omega) (rfl))))) ?_
    refine tk_q rfl rfl rfl (y_move rfl) ?_
    refine tk_q rfl rfl rfl (y_move rfl) ?_
    refine tk_act rfl ?_; refine a_callv [] _ rfl (by kernel_rfl) rfl (fun w' hw' => open_spec (hk := hk) (mk := mk) (kind := kind) (name := nm) (b := sealL hk mk kind nm N b) ⟨lenP, lenP⟩ (Ro.own (H0 := []) hw' (.tail _ (.head _))) ⟨lenP, lenP⟩ (hg.call hw')) rfl fun v118 _ => ?_
    refine tk_H [own v118 b.length (b.map B) 5 1, own v74 xs.length (xs.map B) 5 1, own v40 ((sealL hk mk kind nm N b).length) ((sealL hk mk kind nm N b).map B) 5 1, cel b39 ([v27]) 26, cel b5 (hk.map B ++ (mk.map B)) 36, own v27 b.length (b.map B) 5 1, cel b1 (hk.map B ++ (mk.map B ++ ([B kind, Str name] ++ (N.map B ++ ([bv]))))) 28] (congrArg (fun z_ => [z_, own v74 xs.length (xs.map B) 5 1, own v40 ((sealL hk mk kind nm N b).length) ((sealL hk mk kind nm N b).map B) 5 1, cel b39 ([v27]) 26, cel b5 (hk.map B ++ (mk.map B)) 36, own v27 b.length (b.map B) 5 1, cel b1 (hk.map B ++ (mk.map B ++ ([B kind, Str name] ++ (N.map B ++ ([bv]))))) 28]) (show own v118 (((openF hk mk kind nm (sealL hk mk kind nm N b)).1).length) (((openF hk mk kind nm (sealL hk mk kind nm N b)).1).map B) 5 1 = own v118 b.length (b.map B) 5 1 from ownM_cast (by rw [open_seal hN lenP lenP]))) ?_
    refine tk_re 118 (.tuple #[v118, I (((openF hk mk kind nm (sealL hk mk kind nm N b)).2 : Nat) : Int)]) (.tuple #[v118, I 0]) rfl (by rw [open_seal hN lenP lenP]; rfl) ?_
    refine tk_own1 (.head _) fun hfv118 => ?_
    refine tk_q rfl rfl rfl (y_move rfl) ?_
    refine tk_q rfl rfl rfl (y_extract rfl rfl) ?_
    refine tk_q rfl rfl rfl (y_extract rfl rfl) ?_
    refine tk_q rfl rfl rfl (y_assign rfl) ?_
    refine tk_q rfl rfl rfl (y_assign rfl) ?_
    refine tk_nil ?_
    refine tk_then ?_
    refine tk_seq ?_
    refine tk_region ?_
    refine tk_q rfl rfl rfl (y_move rfl) ?_
    refine tk_q rfl rfl rfl ((y_eql rfl rfl).cast (bool_t (by decide))) ?_
    refine tk_q rfl rfl rfl (y_move rfl) ?_
    refine tk_gq rfl rfl rfl (y_move rfl) ?_
    refine tk_gq rfl rfl rfl (y_str (l := b) rfl rfl rfl rfl (fun w hw => own_rdS (hw.mem (.head _)))) ?_
    refine tk_gq rfl rfl rfl (y_move rfl) ?_
    refine tk_gq rfl rfl rfl (y_str (l := b) rfl rfl rfl rfl (fun w hw => own_rdS (hw.mem (.tail _ (.tail _ (.tail _ (.tail _ (.tail _ (.head _))))))))) ?_
    refine tk_gq rfl rfl rfl ((y_strEq (l := b) (m := b) rfl rfl).cast (bool_t rfl)) ?_
    refine tk_q rfl rfl rfl (y_pick1 rfl rfl) ?_
    refine tk_q rfl rfl rfl (y_assign rfl) ?_
    refine tk_nil ?_
    refine tk_then ?_
    refine tk_retc ?_
    exact tk_ret (()) (trivial) (.inl rfl) (r1 rfl rfl) (List.nil_sublist _)
theorem waxLengths_spec {hk mk name N bs : List UInt8} {kind : UInt8} {bv : Value} {w : World} (hk32 : hk.length = 32) (mk32 : mk.length = 32) (hN : N.length = 16) (hb : Ro (Fs []) w (rdB bv bs)) (hg : Ro (Fs []) w glob) (hnl : name.length < 9223372036854775808) (hbl : bs.length < 9223372036854775808) {ov : Value} {os_ : List UInt8} (ho : Ro (Fs []) w (rdB ov os_)) (hol : os_.length < 9223372036854775808) : Spec Tryd.prog 7 [.agg (hk.map B ++ (mk.map B ++ ([B kind, Str name] ++ (N.map B ++ [bv])))).toArray, ov] w [] (fun _ : Unit => True) (fun _ => .bool true) (fun _ => []) := by
  refine spec_of (n := 159) Tryd.func7 rfl rfl trivial trivial rfl ?_
  refine tk_seq ?_
  refine tk_region ?_
  refine tk_act rfl ?_; refine a_boxL (cs := hk.map B ++ (mk.map B ++ ([B kind, Str name] ++ (N.map B ++ ([bv]))))) rfl rfl fun b2 => ?_
  refine tk_q rfl rfl rfl (y_assign rfl) ?_
  refine tk_nil ?_
  refine tk_then ?_
  refine tk_seq ?_
  refine tk_region ?_
  refine tk_q rfl rfl rfl (y_fldN (o := 0) 65 rfl (by kernel_rfl)) ?_
  refine tk_q rfl rfl rfl (y_load rfl rfl (hc (o := 65) (.head _) (gA (k := 32) (i := 33) (by rw [List.length_map]; exact hk32) (by omega) (gA (k := 32) (i := 1) (by rw [List.length_map]; exact mk32) (by omega) (rfl))))) ?_
  refine tk_q rfl rfl rfl (y_fldN (o := 0) 65 rfl (by kernel_rfl)) ?_
  refine tk_q rfl rfl rfl (y_load rfl rfl (hc (o := 65) (.head _) (gA (k := 32) (i := 33) (by rw [List.length_map]; exact hk32) (by omega) (gA (k := 32) (i := 1) (by rw [List.length_map]; exact mk32) (by omega) (rfl))))) ?_
  refine tk_q rfl rfl rfl (y_lenStr (l := name) rfl rfl) ?_
  refine tk_q rfl rfl rfl (y_minN (a := name.length) (b := 200) rfl rfl) ?_
  refine tk_q rfl rfl rfl (y_cutTh (l := name) (hi := min name.length 200) rfl rfl rfl (by omega)) ?_
  obtain ⟨nm, hnm⟩ : ∃ nm, nm = name.take (min name.length 200) := ⟨_, rfl⟩
  have hnm2 : nm.length ≤ 200 := by rw [hnm]; simp; omega
  refine tk_re 23 (Str (name.take (min name.length 200))) (Str nm) rfl (by rw [hnm]) ?_
  refine tk_q rfl rfl rfl (y_assign rfl) ?_
  refine tk_nil ?_
  refine tk_then ?_
  refine tk_seq ?_
  refine tk_region ?_
  refine tk_q rfl rfl rfl (y_fldN (o := 0) 82 rfl (by kernel_rfl)) ?_
  refine tk_q rfl rfl rfl (y_load rfl rfl (hc (o := 82) (.head _) (gA (k := 32) (i := 50) (by rw [List.length_map]; exact hk32) (by omega) (gA (k := 32) (i := 18) (by rw [List.length_map]; exact mk32) (by omega) (gA (k := 2) (i := 16) rfl (by omega) (gA (k := 16) (i := 0) (by rw [List.length_map]; exact hN) (by omega) (rfl))))))) ?_
  refine tk_q rfl rfl rfl (y_lenRN (n' := bs.length) rfl hb.1 rfl (by first | rfl | (rw [List.length_map]; omega) | simp)) ?_
  refine tk_q rfl rfl rfl (y_move rfl) ?_
  refine tk_q rfl rfl rfl (y_lenRN (n' := os_.length) rfl ho.1 rfl (by first | rfl | (rw [List.length_map]; omega) | simp)) ?_
  refine tk_q rfl rfl rfl (y_min3 (a := bs.length) (b := os_.length) (e := 150) rfl rfl rfl) ?_
  obtain ⟨n, hn⟩ : ∃ n, n = min (min bs.length os_.length) 150 := ⟨_, rfl⟩
  have hn1 : n ≤ 150 ∧ n ≤ bs.length ∧ n ≤ os_.length := by omega
  have hla : (bs.take n).length = n := by rw [List.length_take]; omega
  have hlb : (os_.take n).length = n := by rw [List.length_take]; omega
  refine tk_re 29 (I ((min (min bs.length os_.length) 150 : Nat) : Int)) (I ((n : Nat) : Int)) rfl (by rw [hn]) ?_
  refine tk_q rfl rfl rfl (y_assign rfl) ?_
  refine tk_nil ?_
  refine tk_then ?_
  refine tk_seq ?_
  refine tk_drawH [cel b2 (hk.map B ++ (mk.map B ++ ([B kind, Str name] ++ (N.map B ++ ([bv]))))) 28] [] (by kernel_rfl) ?_
  refine tx_q 0 rfl (by kernel_rfl) rfl rfl rfl (fun _ _ _ h => h) (y_fldN (o := 0) 82 rfl (by kernel_rfl)) ?_
  refine tx_l 1 rfl (by kernel_rfl) (by kernel_rfl) rfl rfl rfl (fun _ _ _ h => h) (fun _ h => h.sub (List.Sublist.refl _)) (y_load rfl rfl (hc (o := 82) (.head _) (gA (k := 32) (i := 50) (by rw [List.length_map]; exact hk32) (by omega) (gA (k := 32) (i := 18) (by rw [List.length_map]; exact mk32) (by omega) (gA (k := 2) (i := 16) rfl (by omega) (gA (k := 16) (i := 0) (by rw [List.length_map]; exact hN) (by omega) (rfl))))))) ?_
  refine tx_q 2 rfl (by kernel_rfl) rfl rfl rfl (fun _ _ _ h => h) (y_move rfl) ?_
  refine tx_q 3 rfl (by kernel_rfl) rfl rfl rfl (fun _ _ _ h => h) (y_cutRBh (l := bs) n rfl rfl hb.1 (by kernel_rfl) lenP rfl) ?_
  refine tx_q 4 rfl (by kernel_rfl) rfl rfl rfl (fun _ _ _ h => h) (y_move rfl) ?_
  refine tx_q 5 rfl (by kernel_rfl) rfl rfl rfl (fun _ _ _ h => h) (y_move rfl) ?_
  refine tx_q 6 rfl (by kernel_rfl) rfl rfl rfl (fun _ _ _ h => h) (y_cutRBh (l := os_) n rfl rfl ho.1 (by kernel_rfl) lenP rfl) ?_
  refine tx_q 7 rfl (by kernel_rfl) rfl rfl rfl (fun _ _ _ h => h) (y_assign rfl) ?_
  refine tx_q 8 rfl (by kernel_rfl) rfl rfl rfl (fun _ _ _ h => h) (y_assign rfl) ?_
  refine tx_done (by kernel_rfl) ?_
  refine tk_then ?_
  refine tk_seq ?_
  refine tk_region ?_
  refine tk_q rfl rfl rfl (y_fld0 (o := 0) rfl (by kernel_rfl)) ?_
  refine tk_q rfl rfl rfl (y_loadA (vs := hk.map B ++ (mk.map B)) 64 rfl (by kernel_rfl) lenP (hseg (pre := ([] : List Value)) (post := [B kind, Str name] ++ (N.map B ++ ([bv]))) (.head _) lenP (by simp))) ?_
  refine tk_act rfl ?_; refine a_callv [] _ rfl (by kernel_rfl) rfl (fun w' hw' => to_spec (hk := hk) (mk := mk) lenP lenP) rfl fun _ _ => ?_
  refine tk_act rfl ?_; refine a_allocL (cs := (List.replicate 32 0).map B ++ ((List.replicate 32 0).map B)) (by kernel_rfl) rfl fun b9 => ?_
  refine tk_act rfl ?_; refine a_storeW (H1 := []) (vs := hk.map B ++ (mk.map B)) 64 rfl rfl (by kernel_rfl) rfl ⟨lenP, lenP⟩ (List.forall_mem_append.2 ⟨oneB, oneB⟩) ?_
  refine tk_nil ?_
  refine tk_then ?_
  refine tk_seq ?_
  refine tk_region ?_
  refine tk_q rfl rfl rfl (y_loadA 64 rfl (by kernel_rfl) lenP (hcw (.head _))) ?_
  refine tk_q rfl rfl rfl (y_fldN (o := 0) 64 rfl (by kernel_rfl)) ?_
  refine tk_q rfl rfl rfl (y_load rfl rfl (hc (o := 64) (.tail _ (.head _)) (gA (k := 32) (i := 32) (by rw [List.length_map]; exact hk32) (by omega) (gA (k := 32) (i := 0) (by rw [List.length_map]; exact mk32) (by omega) (rfl))))) ?_
  refine tk_q rfl rfl rfl (y_move rfl) ?_
  refine tk_q rfl rfl rfl (y_fldN (o := 0) 66 rfl (by kernel_rfl)) ?_
  refine tk_q rfl rfl rfl (y_loadA (vs := N.map B) 16 rfl (by kernel_rfl) lenP (hseg (pre := hk.map B ++ (mk.map B ++ ([B kind, Str name]))) (post := [bv]) (.tail _ (.head _)) lenP (by simp))) ?_
  refine tk_q rfl rfl rfl (y_move rfl) ?_
  refine tk_act rfl ?_; refine a_slitN (vs := [cutR bv 0 n]) rfl (List.forall_mem_cons.2 ⟨(RdS.one (RdS.cutBh hb.1 (hi := n) lenP)), (fun _ h => nomatch h)⟩) (EL45) rfl rfl (by decide) fun b48 => ?_
  refine tk_act rfl ?_; refine a_callv [] _ rfl (by kernel_rfl) rfl (fun w' hw' => seal_spec (hk := hk) (mk := mk) (kind := kind) (name := nm) (N := N) (ps := [(cutR bv 0 n, bs.take n)]) (L := bs.take n) ⟨lenP, lenP, lenP⟩ (Ro.cel (vs := [cutR bv 0 n]) hw' (.head _) (by first | rfl | simp) rfl (by decide)) (List.forall_mem_cons.2 ⟨(Ro.cutBh (Ro.call (H0 := []) hb hw') (hi := n) lenP), (fun _ h => nomatch h)⟩) (by simp) ⟨lenP, lenP, lenP⟩ (hg.call hw')) rfl fun v49 _ => ?_
  refine tk_H [own v49 ((sealL hk mk kind nm N (bs.take n)).length) ((sealL hk mk kind nm N (bs.take n)).map B) 5 1, cel b48 ([cutR bv 0 n]) 26, cel b9 (hk.map B ++ (mk.map B)) 36, cel b2 (hk.map B ++ (mk.map B ++ ([B kind, Str name] ++ (N.map B ++ ([bv]))))) 28] (congrArg (fun z_ => [z_, cel b48 ([cutR bv 0 n]) 26, cel b9 (hk.map B ++ (mk.map B)) 36, cel b2 (hk.map B ++ (mk.map B ++ ([B kind, Str name] ++ (N.map B ++ ([bv]))))) 28]) (show own v49 (((sealF hk mk kind nm N (bs.take n)).1).length) (((sealF hk mk kind nm N (bs.take n)).1).map B) 5 1 = own v49 ((sealL hk mk kind nm N (bs.take n)).length) ((sealL hk mk kind nm N (bs.take n)).map B) 5 1 from ownM_cast (by rw [sealF_ok lenP lenP]))) ?_
  refine tk_re 49 (.tuple #[v49, I (((sealF hk mk kind nm N (bs.take n)).2 : Nat) : Int)]) (.tuple #[v49, I 0]) rfl (by rw [sealF_ok lenP lenP]; rfl) ?_
  have hslv49 : (sealL hk mk kind nm N (bs.take n)).length = (bs.take n).length + 48 := sealL_len hN
  refine tk_own1 (.head _) fun hfv49 => ?_
  refine tk_q rfl rfl rfl (y_move rfl) ?_
  refine tk_q rfl rfl rfl (y_extract rfl rfl) ?_
  refine tk_q rfl rfl rfl (y_extract rfl rfl) ?_
  refine tk_q rfl rfl rfl (y_assign rfl) ?_
  refine tk_q rfl rfl rfl (y_assign rfl) ?_
  refine tk_nil ?_
  refine tk_then ?_
  refine tk_seq ?_
  refine tk_region ?_
  refine tk_q rfl rfl rfl (y_loadA 64 rfl (by kernel_rfl) lenP (hcw (.tail _ (.tail _ (.head _))))) ?_
  refine tk_q rfl rfl rfl (y_fldN (o := 0) 64 rfl (by kernel_rfl)) ?_
  refine tk_q rfl rfl rfl (y_load rfl rfl (hc (o := 64) (.tail _ (.tail _ (.tail _ (.head _)))) (gA (k := 32) (i := 32) (by rw [List.length_map]; exact hk32) (by omega) (gA (k := 32) (i := 0) (by rw [List.length_map]; exact mk32) (by omega) (rfl))))) ?_
  refine tk_q rfl rfl rfl (y_move rfl) ?_
  refine tk_q rfl rfl rfl (y_fldN (o := 0) 66 rfl (by kernel_rfl)) ?_
  refine tk_q rfl rfl rfl (y_loadA (vs := N.map B) 16 rfl (by kernel_rfl) lenP (hseg (pre := hk.map B ++ (mk.map B ++ ([B kind, Str name]))) (post := [bv]) (.tail _ (.tail _ (.tail _ (.head _)))) lenP (by simp))) ?_
  refine tk_q rfl rfl rfl (y_move rfl) ?_
  refine tk_act rfl ?_; refine a_slitN (vs := [cutR ov 0 n]) rfl (List.forall_mem_cons.2 ⟨(RdS.one (RdS.cutBh ho.1 (hi := n) lenP)), (fun _ h => nomatch h)⟩) (EL45) rfl rfl (by decide) fun b60 => ?_
  refine tk_act rfl ?_; refine a_callv [] _ rfl (by kernel_rfl) rfl (fun w' hw' => seal_spec (hk := hk) (mk := mk) (kind := kind) (name := nm) (N := N) (ps := [(cutR ov 0 n, os_.take n)]) (L := os_.take n) ⟨lenP, lenP, lenP⟩ (Ro.cel (vs := [cutR ov 0 n]) hw' (.head _) (by first | rfl | simp) rfl (by decide)) (List.forall_mem_cons.2 ⟨(Ro.cutBh (Ro.call (H0 := []) ho hw') (hi := n) lenP), (fun _ h => nomatch h)⟩) (by simp) ⟨lenP, lenP, lenP⟩ (hg.call hw')) rfl fun v61 _ => ?_
  refine tk_H [own v61 ((sealL hk mk kind nm N (os_.take n)).length) ((sealL hk mk kind nm N (os_.take n)).map B) 5 1, cel b60 ([cutR ov 0 n]) 26, own v49 ((sealL hk mk kind nm N (bs.take n)).length) ((sealL hk mk kind nm N (bs.take n)).map B) 5 1, cel b48 ([cutR bv 0 n]) 26, cel b9 (hk.map B ++ (mk.map B)) 36, cel b2 (hk.map B ++ (mk.map B ++ ([B kind, Str name] ++ (N.map B ++ ([bv]))))) 28] (congrArg (fun z_ => [z_, cel b60 ([cutR ov 0 n]) 26, own v49 ((sealL hk mk kind nm N (bs.take n)).length) ((sealL hk mk kind nm N (bs.take n)).map B) 5 1, cel b48 ([cutR bv 0 n]) 26, cel b9 (hk.map B ++ (mk.map B)) 36, cel b2 (hk.map B ++ (mk.map B ++ ([B kind, Str name] ++ (N.map B ++ ([bv]))))) 28]) (show own v61 (((sealF hk mk kind nm N (os_.take n)).1).length) (((sealF hk mk kind nm N (os_.take n)).1).map B) 5 1 = own v61 ((sealL hk mk kind nm N (os_.take n)).length) ((sealL hk mk kind nm N (os_.take n)).map B) 5 1 from ownM_cast (by rw [sealF_ok lenP lenP]))) ?_
  refine tk_re 61 (.tuple #[v61, I (((sealF hk mk kind nm N (os_.take n)).2 : Nat) : Int)]) (.tuple #[v61, I 0]) rfl (by rw [sealF_ok lenP lenP]; rfl) ?_
  have hslv61 : (sealL hk mk kind nm N (os_.take n)).length = (os_.take n).length + 48 := sealL_len hN
  refine tk_own1 (.head _) fun hfv61 => ?_
  refine tk_q rfl rfl rfl (y_move rfl) ?_
  refine tk_q rfl rfl rfl (y_extract rfl rfl) ?_
  refine tk_q rfl rfl rfl (y_extract rfl rfl) ?_
  refine tk_q rfl rfl rfl (y_assign rfl) ?_
  refine tk_q rfl rfl rfl (y_assign rfl) ?_
  refine tk_nil ?_
  refine tk_then ?_
  refine tk_seq ?_
  refine tk_region ?_
  refine tk_q rfl rfl rfl (y_loadA 64 rfl (by kernel_rfl) lenP (hcw (.tail _ (.tail _ (.tail _ (.tail _ (.head _))))))) ?_
  refine tk_q rfl rfl rfl (y_fldN (o := 0) 64 rfl (by kernel_rfl)) ?_
  refine tk_q rfl rfl rfl (y_load rfl rfl (hc (o := 64) (.tail _ (.tail _ (.tail _ (.tail _ (.tail _ (.head _)))))) (gA (k := 32) (i := 32) (by rw [List.length_map]; exact hk32) (by omega) (gA (k := 32) (i := 0) (by rw [List.length_map]; exact mk32) (by omega) (rfl))))) ?_
  refine tk_q rfl rfl rfl (y_xor8 (a := kind) (b := 1) rfl rfl) ?_
  refine tk_q rfl rfl rfl (y_move rfl) ?_
  refine tk_q rfl rfl rfl (y_catT (l := nm) (m := [33]) rfl rfl lenP) ?_
  refine tk_q rfl rfl rfl (y_fldN (o := 0) 66 rfl (by kernel_rfl)) ?_
  refine tk_q rfl rfl rfl (y_loadA (vs := N.map B) 16 rfl (by kernel_rfl) lenP (hseg (pre := hk.map B ++ (mk.map B ++ ([B kind, Str name]))) (post := [bv]) (.tail _ (.tail _ (.tail _ (.tail _ (.tail _ (.head _)))))) lenP (by simp))) ?_
  refine tk_q rfl rfl rfl (y_move rfl) ?_
  refine tk_act rfl ?_; refine a_slitN (vs := [cutR bv 0 n]) rfl (List.forall_mem_cons.2 ⟨(RdS.one (RdS.cutBh hb.1 (hi := n) lenP)), (fun _ h => nomatch h)⟩) (EL45) rfl rfl (by decide) fun b74 => ?_
  refine tk_act rfl ?_; refine a_callv [] _ rfl (by kernel_rfl) rfl (fun w' hw' => seal_spec (hk := hk) (mk := mk) (kind := kind ^^^ 1) (name := nm ++ [33]) (N := N) (ps := [(cutR bv 0 n, bs.take n)]) (L := bs.take n) ⟨lenP, lenP, lenP⟩ (Ro.cel (vs := [cutR bv 0 n]) hw' (.head _) (by first | rfl | simp) rfl (by decide)) (List.forall_mem_cons.2 ⟨(Ro.cutBh (Ro.call (H0 := []) hb hw') (hi := n) lenP), (fun _ h => nomatch h)⟩) (by simp) ⟨lenP, lenP, lenP⟩ (hg.call hw')) rfl fun v75 _ => ?_
  refine tk_H [own v75 ((sealL hk mk (kind ^^^ 1) (nm ++ [33]) N (bs.take n)).length) ((sealL hk mk (kind ^^^ 1) (nm ++ [33]) N (bs.take n)).map B) 5 1, cel b74 ([cutR bv 0 n]) 26, own v61 ((sealL hk mk kind nm N (os_.take n)).length) ((sealL hk mk kind nm N (os_.take n)).map B) 5 1, cel b60 ([cutR ov 0 n]) 26, own v49 ((sealL hk mk kind nm N (bs.take n)).length) ((sealL hk mk kind nm N (bs.take n)).map B) 5 1, cel b48 ([cutR bv 0 n]) 26, cel b9 (hk.map B ++ (mk.map B)) 36, cel b2 (hk.map B ++ (mk.map B ++ ([B kind, Str name] ++ (N.map B ++ ([bv]))))) 28] (congrArg (fun z_ => [z_, cel b74 ([cutR bv 0 n]) 26, own v61 ((sealL hk mk kind nm N (os_.take n)).length) ((sealL hk mk kind nm N (os_.take n)).map B) 5 1, cel b60 ([cutR ov 0 n]) 26, own v49 ((sealL hk mk kind nm N (bs.take n)).length) ((sealL hk mk kind nm N (bs.take n)).map B) 5 1, cel b48 ([cutR bv 0 n]) 26, cel b9 (hk.map B ++ (mk.map B)) 36, cel b2 (hk.map B ++ (mk.map B ++ ([B kind, Str name] ++ (N.map B ++ ([bv]))))) 28]) (show own v75 (((sealF hk mk (kind ^^^ 1) (nm ++ [33]) N (bs.take n)).1).length) (((sealF hk mk (kind ^^^ 1) (nm ++ [33]) N (bs.take n)).1).map B) 5 1 = own v75 ((sealL hk mk (kind ^^^ 1) (nm ++ [33]) N (bs.take n)).length) ((sealL hk mk (kind ^^^ 1) (nm ++ [33]) N (bs.take n)).map B) 5 1 from ownM_cast (by rw [sealF_ok lenP lenP]))) ?_
  refine tk_re 75 (.tuple #[v75, I (((sealF hk mk (kind ^^^ 1) (nm ++ [33]) N (bs.take n)).2 : Nat) : Int)]) (.tuple #[v75, I 0]) rfl (by rw [sealF_ok lenP lenP]; rfl) ?_
  have hslv75 : (sealL hk mk (kind ^^^ 1) (nm ++ [33]) N (bs.take n)).length = (bs.take n).length + 48 := sealL_len hN
  refine tk_own1 (.head _) fun hfv75 => ?_
  refine tk_q rfl rfl rfl (y_move rfl) ?_
  refine tk_q rfl rfl rfl (y_extract rfl rfl) ?_
  refine tk_q rfl rfl rfl (y_extract rfl rfl) ?_
  refine tk_q rfl rfl rfl (y_assign rfl) ?_
  refine tk_q rfl rfl rfl (y_assign rfl) ?_
  refine tk_nil ?_
  refine tk_then ?_
  refine tk_seq ?_
  refine tk_seq ?_
  refine tk_region ?_
  refine tk_act rfl ?_; refine a_callv [] _ rfl (by kernel_rfl) rfl (fun w' hw' => waxes_spec (hg.call hw')) rfl fun _ _ => ?_
  refine tk_q rfl rfl rfl (y_not rfl) ?_
  refine tk_q rfl rfl rfl (y_move rfl) ?_
  refine tk_gq rfl rfl rfl (y_move rfl) ?_
  refine tk_gq rfl rfl rfl ((y_neq rfl rfl).cast (bool_f (by decide))) ?_
  refine tk_q rfl rfl rfl (y_pick0 rfl rfl) ?_
  refine tk_q rfl rfl rfl (y_move rfl) ?_
  refine tk_gq rfl rfl rfl (y_move rfl) ?_
  refine tk_gq rfl rfl rfl ((y_neq rfl rfl).cast (bool_f (by decide))) ?_
  refine tk_q rfl rfl rfl (y_pick0 rfl rfl) ?_
  refine tk_q rfl rfl rfl (y_move rfl) ?_
  refine tk_gq rfl rfl rfl (y_move rfl) ?_
  refine tk_gq rfl rfl rfl ((y_neq rfl rfl).cast (bool_f (by decide))) ?_
  refine tk_q rfl rfl rfl (y_pick0 rfl rfl) ?_
  refine tk_q rfl rfl rfl (y_move rfl) ?_
  refine tk_gq rfl rfl rfl (y_move rfl) ?_
  refine tk_gq rfl rfl rfl (y_lenRN (n' := (sealL hk mk kind nm N (bs.take n)).length) rfl hfv49.choose_spec rfl (by first | rfl | (rw [List.length_map]; omega) | simp)) ?_
  refine tk_gq rfl rfl rfl (y_move rfl) ?_
  refine tk_gq rfl rfl rfl (y_addN (a := n) (b := 48) rfl rfl (by omega)) ?_
  refine tk_gqe (.bool false) rfl rfl rfl (y_neq rfl rfl) (bool_f (fun h => h (by omega))) ?_
  refine tk_q rfl rfl rfl (y_pick0 rfl rfl) ?_
  refine tk_q rfl rfl rfl (y_move rfl) ?_
  refine tk_gq rfl rfl rfl (y_move rfl) ?_
  refine tk_gq rfl rfl rfl (y_lenRN (n' := (sealL hk mk kind nm N (os_.take n)).length) rfl hfv61.choose_spec rfl (by first | rfl | (rw [List.length_map]; omega) | simp)) ?_
  refine tk_gq rfl rfl rfl (y_move rfl) ?_
  refine tk_gq rfl rfl rfl (y_lenRN (n' := (sealL hk mk kind nm N (bs.take n)).length) rfl hfv49.choose_spec rfl (by first | rfl | (rw [List.length_map]; omega) | simp)) ?_
  refine tk_gqe (.bool false) rfl rfl rfl (y_neq rfl rfl) (bool_f (fun h => h (by omega))) ?_
  refine tk_q rfl rfl rfl (y_pick0 rfl rfl) ?_
  refine tk_q rfl rfl rfl (y_move rfl) ?_
  refine tk_gq rfl rfl rfl (y_move rfl) ?_
  refine tk_gq rfl rfl rfl (y_lenRN (n' := (sealL hk mk (kind ^^^ 1) (nm ++ [33]) N (bs.take n)).length) rfl hfv75.choose_spec rfl (by first | rfl | (rw [List.length_map]; omega) | simp)) ?_
  refine tk_gq rfl rfl rfl (y_move rfl) ?_
  refine tk_gq rfl rfl rfl (y_lenRN (n' := (sealL hk mk kind nm N (bs.take n)).length) rfl hfv49.choose_spec rfl (by first | rfl | (rw [List.length_map]; omega) | simp)) ?_
  refine tk_gqe (.bool false) rfl rfl rfl (y_neq rfl rfl) (bool_f (fun h => h (by omega))) ?_
  refine tk_q rfl rfl rfl (y_pick0 rfl rfl) ?_
  refine tk_nil ?_
  refine tk_then ?_
  refine tk_cond0 rfl ?_
  refine tk_skip ?_
  refine tk_then ?_
  refine tk_seq ?_
  refine tk_seq ?_
  refine tk_region ?_
  refine tk_q rfl rfl rfl (y_assign rfl) ?_
  refine tk_nil ?_
  refine tk_then ?_
  refine tk_block ?_
  refine tk_loop (X := Nat) (fun i => i ≤ n) (fun i => [(6, I ((n : Nat) : Int)), (7, cutR bv 0 n), (8, cutR ov 0 n), (10, v49), (12, v61), (14, v75), (16, I ((i : Nat) : Int))]) (fun i => [own v75 ((sealL hk mk (kind ^^^ 1) (nm ++ [33]) N (bs.take n)).length) ((sealL hk mk (kind ^^^ 1) (nm ++ [33]) N (bs.take n)).map B) 5 1, cel b74 ([cutR bv 0 n]) 26, own v61 ((sealL hk mk kind nm N (os_.take n)).length) ((sealL hk mk kind nm N (os_.take n)).map B) 5 1, cel b60 ([cutR ov 0 n]) 26, own v49 ((sealL hk mk kind nm N (bs.take n)).length) ((sealL hk mk kind nm N (bs.take n)).map B) 5 1, cel b48 ([cutR bv 0 n]) 26, cel b9 (hk.map B ++ (mk.map B)) 36, cel b2 (hk.map B ++ (mk.map B ++ ([B kind, Str name] ++ (N.map B ++ ([bv]))))) 28]) (fun i => n - i) (0) (by first | exact trivial | omega | (dsimp only; omega)) (by repeat (first | exact trivial | refine ⟨rfl, ?_⟩)) ((List.Sublist.refl _)) ?_
  rintro i hI
  try dsimp only at hI ⊢
  refine tk_seq ?_
  refine tk_seq ?_
  refine tk_region ?_
  refine tk_q rfl rfl rfl (y_move rfl) ?_
  refine tk_q rfl rfl rfl (y_move rfl) ?_
  refine tk_q rfl rfl rfl (y_lss rfl rfl) ?_
  refine tk_nil ?_
  refine tk_then ?_
  refine tk_condP rfl (fun ht115 => ?_) (fun ht115 => ?_)
  · skip
    refine tk_skip ?_
    refine tk_then ?_
    refine tk_seq ?_
    refine tk_block ?_
    refine tk_seq ?_
    refine tk_drawH [own v75 ((sealL hk mk (kind ^^^ 1) (nm ++ [33]) N (bs.take n)).length) ((sealL hk mk (kind ^^^ 1) (nm ++ [33]) N (bs.take n)).map B) 5 1, cel b74 ([cutR bv 0 n]) 26, own v61 ((sealL hk mk kind nm N (os_.take n)).length) ((sealL hk mk kind nm N (os_.take n)).map B) 5 1, cel b60 ([cutR ov 0 n]) 26, own v49 ((sealL hk mk kind nm N (bs.take n)).length) ((sealL hk mk kind nm N (bs.take n)).map B) 5 1, cel b48 ([cutR bv 0 n]) 26, cel b9 (hk.map B ++ (mk.map B)) 36, cel b2 (hk.map B ++ (mk.map B ++ ([B kind, Str name] ++ (N.map B ++ ([bv]))))) 28] [] (by kernel_rfl) ?_
    refine tx_q 0 rfl (by kernel_rfl) rfl rfl rfl (fun _ _ _ h => h) (y_move rfl) ?_
    refine tx_q 1 rfl (by kernel_rfl) rfl rfl rfl (fun _ _ _ h => h) (y_move rfl) ?_
    refine tx_q 2 rfl (by kernel_rfl) rfl rfl rfl (fun _ _ _ h => h) (y_addN (a := 16) (b := i) rfl rfl (by omega)) ?_
    refine tx_q 3 rfl (by kernel_rfl) rfl rfl rfl (fun _ _ _ h => h) (y_ixR (j := 16 + i) rfl rfl hfv49.choose_spec lenP (by kernel_rfl)) ?_
    refine tx_l 4 rfl (by kernel_rfl) (by kernel_rfl) rfl rfl rfl (fun _ _ _ h => h) (fun _ h => h.sub (List.Sublist.refl _)) (y_load rfl rfl (fun w hw => ((fun w hw => own_rdS (hw.mem (.tail _ (.tail _ (.tail _ (.tail _ (.head _))))))) w hw).cell (gM (d := 0) lenP))) ?_
    refine tx_q 5 rfl (by kernel_rfl) rfl rfl rfl (fun _ _ _ h => h) (y_move rfl) ?_
    refine tx_q 6 rfl (by kernel_rfl) rfl rfl rfl (fun _ _ _ h => h) (y_move rfl) ?_
    refine tx_q 7 rfl (by kernel_rfl) rfl rfl rfl (fun _ _ _ h => h) (y_addN (a := 16) (b := i) rfl rfl (by omega)) ?_
    refine tx_q 8 rfl (by kernel_rfl) rfl rfl rfl (fun _ _ _ h => h) (y_ixR (j := 16 + i) rfl rfl hfv61.choose_spec lenP (by kernel_rfl)) ?_
    refine tx_l 9 rfl (by kernel_rfl) (by kernel_rfl) rfl rfl rfl (fun _ _ _ h => h) (fun _ h => h.sub (List.Sublist.refl _)) (y_load rfl rfl (fun w hw => ((fun w hw => own_rdS (hw.mem (.tail _ (.tail _ (.head _))))) w hw).cell (gM (d := 0) lenP))) ?_
    refine tx_q 10 rfl (by kernel_rfl) rfl rfl rfl (fun _ _ _ h => h) (y_xor8 (a := (sealL hk mk kind nm N (bs.take n)).getD (16 + i) 0) (b := (sealL hk mk kind nm N (os_.take n)).getD (16 + i) 0) rfl rfl) ?_
    refine tx_q 11 rfl (by kernel_rfl) rfl rfl rfl (fun _ _ _ h => h) (y_move rfl) ?_
    refine tx_q 12 rfl (by kernel_rfl) rfl rfl rfl (fun _ _ _ h => h) (y_move rfl) ?_
    refine tx_q 13 rfl (by kernel_rfl) rfl rfl rfl (fun _ _ _ h => h) (y_ixR (j := i) rfl rfl (RdS.cutBh hb.1 (hi := n) lenP) lenP (by kernel_rfl)) ?_
    refine tx_l 14 rfl (by kernel_rfl) (by kernel_rfl) rfl rfl rfl (fun _ _ _ h => h) (fun _ h => h.sub (List.Sublist.refl _)) (y_load rfl rfl (fun w hw => ((fun w hw => RdS.cutBh ((fun w hw => Ro.rd hb hw) w hw) (hi := n) lenP) w hw).cell (gM (d := 0) lenP))) ?_
    refine tx_q 15 rfl (by kernel_rfl) rfl rfl rfl (fun _ _ _ h => h) (y_move rfl) ?_
    refine tx_q 16 rfl (by kernel_rfl) rfl rfl rfl (fun _ _ _ h => h) (y_move rfl) ?_
    refine tx_q 17 rfl (by kernel_rfl) rfl rfl rfl (fun _ _ _ h => h) (y_ixR (j := i) rfl rfl (RdS.cutBh ho.1 (hi := n) lenP) lenP (by kernel_rfl)) ?_
    refine tx_l 18 rfl (by kernel_rfl) (by kernel_rfl) rfl rfl rfl (fun _ _ _ h => h) (fun _ h => h.sub (List.Sublist.refl _)) (y_load rfl rfl (fun w hw => ((fun w hw => RdS.cutBh ((fun w hw => Ro.rd ho hw) w hw) (hi := n) lenP) w hw).cell (gM (d := 0) lenP))) ?_
    refine tx_q 19 rfl (by kernel_rfl) rfl rfl rfl (fun _ _ _ h => h) (y_xor8 (a := (bs.take n).getD i 0) (b := (os_.take n).getD i 0) rfl rfl) ?_
    refine tx_q 20 rfl (by kernel_rfl) rfl rfl rfl (fun _ _ _ h => h) ((y_neq rfl rfl).cast (v := _) (u := .bool false) (bool_f (fun h => h (by rw [sealL_hid hN (by omega), sealL_hid hN (by omega), xor4])))) ?_
    refine tx_q 21 rfl (by kernel_rfl) rfl rfl rfl (fun _ _ _ h => h) (y_move rfl) ?_
    refine tx_q 22 rfl (by kernel_rfl) rfl rfl rfl (fun _ _ _ h => h) (y_move rfl) ?_
    refine tx_q 23 rfl (by kernel_rfl) rfl rfl rfl (fun _ _ _ h => h) (y_move rfl) ?_
    refine tx_q 24 rfl (by kernel_rfl) rfl rfl rfl (fun _ _ _ h => h) (y_addN (a := 16) (b := i) rfl rfl (by omega)) ?_
    refine tx_q 25 rfl (by kernel_rfl) rfl rfl rfl (fun _ _ _ h => h) (y_ixR (j := 16 + i) rfl rfl hfv49.choose_spec lenP (by kernel_rfl)) ?_
    refine tx_l 26 rfl (by kernel_rfl) (by kernel_rfl) rfl rfl rfl (fun _ _ _ h => h) (fun _ h => h.sub (List.Sublist.refl _)) (y_load rfl rfl (fun w hw => ((fun w hw => own_rdS (hw.mem (.tail _ (.tail _ (.tail _ (.tail _ (.head _))))))) w hw).cell (gM (d := 0) lenP))) ?_
    refine tx_q 27 rfl (by kernel_rfl) rfl rfl rfl (fun _ _ _ h => h) (y_move rfl) ?_
    refine tx_q 28 rfl (by kernel_rfl) rfl rfl rfl (fun _ _ _ h => h) (y_move rfl) ?_
    refine tx_q 29 rfl (by kernel_rfl) rfl rfl rfl (fun _ _ _ h => h) (y_addN (a := 16) (b := i) rfl rfl (by omega)) ?_
    refine tx_q 30 rfl (by kernel_rfl) rfl rfl rfl (fun _ _ _ h => h) (y_ixR (j := 16 + i) rfl rfl hfv75.choose_spec lenP (by kernel_rfl)) ?_
    refine tx_l 31 rfl (by kernel_rfl) (by kernel_rfl) rfl rfl rfl (fun _ _ _ h => h) (fun _ h => h.sub (List.Sublist.refl _)) (y_load rfl rfl (fun w hw => ((fun w hw => own_rdS (hw.mem (.head _))) w hw).cell (gM (d := 0) lenP))) ?_
    refine tx_q 32 rfl (by kernel_rfl) rfl rfl rfl (fun _ _ _ h => h) ((y_neq rfl rfl).cast (v := _) (u := .bool false) (bool_f (fun h => h (by rw [sealL_hid hN (by omega), sealL_hid hN (by omega)])))) ?_
    refine tx_q 33 rfl (by kernel_rfl) rfl rfl rfl (fun _ _ _ h => h) (y_pick0 rfl rfl) ?_
    refine tx_done (by kernel_rfl) ?_
    refine tk_then ?_
    refine tk_cond0 rfl ?_
    refine tk_skip ?_
    refine tk_in_normal ?_
    refine tk_then ?_
    refine tk_region ?_
    refine tk_q rfl rfl rfl (y_move rfl) ?_
    refine tk_q rfl rfl rfl (y_addN (a := i) (b := 1) rfl rfl (by omega)) ?_
    refine tk_q rfl rfl rfl (y_assign rfl) ?_
    refine tk_nil ?_
    exact tk_again (i + 1) (by first | exact trivial | omega | (dsimp only; omega)) (by first | omega | (dsimp only; omega)) (by repeat (first | exact trivial | refine ⟨rfl, ?_⟩)) (List.Sublist.refl _)
  · skip
    refine tk_exit ?_
    refine tk_then_exit ?_
    refine tk_then_exit ?_
    refine tk_in_hit ?_
    refine tk_then ?_
    refine tk_seq ?_
    refine tk_drawH [own v75 ((sealL hk mk (kind ^^^ 1) (nm ++ [33]) N (bs.take n)).length) ((sealL hk mk (kind ^^^ 1) (nm ++ [33]) N (bs.take n)).map B) 5 1, cel b74 ([cutR bv 0 n]) 26, own v61 ((sealL hk mk kind nm N (os_.take n)).length) ((sealL hk mk kind nm N (os_.take n)).map B) 5 1, cel b60 ([cutR ov 0 n]) 26, own v49 ((sealL hk mk kind nm N (bs.take n)).length) ((sealL hk mk kind nm N (bs.take n)).map B) 5 1, cel b48 ([cutR bv 0 n]) 26, cel b9 (hk.map B ++ (mk.map B)) 36, cel b2 (hk.map B ++ (mk.map B ++ ([B kind, Str name] ++ (N.map B ++ ([bv]))))) 28] [] (by kernel_rfl) ?_
    refine tx_q 0 rfl (by kernel_rfl) rfl rfl rfl (fun _ _ _ h => h) (y_move rfl) ?_
    refine tx_q 1 rfl (by kernel_rfl) rfl rfl rfl (fun _ _ _ h => h) (y_cutRBh (l := sealL hk mk kind nm N (bs.take n)) 16 rfl rfl hfv49.choose_spec (by kernel_rfl) lenP rfl) ?_
    refine tx_l 2 rfl (by kernel_rfl) (by kernel_rfl) rfl rfl rfl (fun _ _ _ h => h) (fun _ h => h.sub (List.Sublist.refl _)) (y_str (l := (sealL hk mk kind nm N (bs.take n)).take 16) rfl rfl rfl rfl (fun w hw => RdS.cutBh ((fun w hw => own_rdS (hw.mem (.tail _ (.tail _ (.tail _ (.tail _ (.head _))))))) w hw) (hi := 16) lenP)) ?_
    refine tx_q 3 rfl (by kernel_rfl) rfl rfl rfl (fun _ _ _ h => h) (y_move rfl) ?_
    refine tx_q 4 rfl (by kernel_rfl) rfl rfl rfl (fun _ _ _ h => h) (y_cutRBh (l := sealL hk mk kind nm N (os_.take n)) 16 rfl rfl hfv61.choose_spec (by kernel_rfl) lenP rfl) ?_
    refine tx_l 5 rfl (by kernel_rfl) (by kernel_rfl) rfl rfl rfl (fun _ _ _ h => h) (fun _ h => h.sub (List.Sublist.refl _)) (y_str (l := (sealL hk mk kind nm N (os_.take n)).take 16) rfl rfl rfl rfl (fun w hw => RdS.cutBh ((fun w hw => own_rdS (hw.mem (.tail _ (.tail _ (.head _))))) w hw) (hi := 16) lenP)) ?_
    refine tx_q 6 rfl (by kernel_rfl) rfl rfl rfl (fun _ _ _ h => h) ((y_strEq (l := (sealL hk mk kind nm N (bs.take n)).take 16) (m := (sealL hk mk kind nm N (os_.take n)).take 16) rfl rfl).cast (v := _) (u := .bool true) (bool_t (by rw [(seal_cut hN).1, (seal_cut hN).1]))) ?_
    refine tx_q 7 rfl (by kernel_rfl) rfl rfl rfl (fun _ _ _ h => h) (y_assign rfl) ?_
    refine tx_done (by kernel_rfl) ?_
    refine tk_then ?_
    refine tk_retc ?_
    exact tk_ret (()) (trivial) (.inl rfl) (r1 rfl rfl) (List.nil_sublist _)
end Go.Proofs.YtfofkjajlfphjaaDoor

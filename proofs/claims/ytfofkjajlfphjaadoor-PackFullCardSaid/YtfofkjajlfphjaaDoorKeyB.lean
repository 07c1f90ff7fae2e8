/- cell: the walk over more. -/
import Derived.Test.YtfofkjajlfphjaaDoorKeyA
set_option linter.unusedSimpArgs false
set_option linter.unusedVariables false
namespace Go.Proofs.YtfofkjajlfphjaaDoor
open Go Go.RowKit
set_option maxRecDepth 100000
attribute [local irreducible] sumL tapeL bej be8
theorem more_spec {tb c : Nat} {vb vl : Value} {b l : List UInt8} {w : World} (hlb : b.length < 1099511627776 ∧ l.length < 1099511627776) (hcn : c < 9223372036854775808) (hg : Ro (Fs [cel tb [vb, .int .u64 (c : Int), vl] 160, ownB vb b 5, ownB vl l 5]) w glob)
    (hh : Pre w [cel tb [vb, .int .u64 (c : Int), vl] 160, ownB vb b 5, ownB vl l 5]) :
    Spec Tryd.prog 105 [.pointer (some ⟨tb, 0, none⟩)] w [cel tb [vb, .int .u64 (c : Int), vl] 160, ownB vb b 5, ownB vl l 5] (fun _ : Value => True) (fun _ => .tuple #[])
      (fun vo => [cel tb [vb, .int .u64 ((c + 1 : Nat) : Int), vo] 160, ownB vb b 5, ownB vo (l ++ sumL (b ++ be8 c)) 5]) := by
  refine spec_of (n := 42) Tryd.func105 rfl rfl hh.1 hh.2 rfl ?_
  have hb8 : (be8 c).length = 8 := be8_len
  refine tk_own1 (.tail _ (.head _)) fun hfb => ?_
  refine tk_own1 (.tail _ (.tail _ (.head _))) fun hfl => ?_
  refine tk_seq ?_
  refine tk_region ?_
  refine tk_q rfl rfl rfl (y_assign rfl) ?_
  refine tk_nil ?_
  refine tk_then ?_
  refine tk_seq ?_
  refine tk_seq ?_
  refine tk_region ?_
  refine tk_q rfl rfl rfl (y_assign rfl) ?_
  refine tk_nil ?_
  refine tk_then ?_
  refine tk_block ?_
  refine tk_ownM0 (f := B) 5 ?_
  refine tk_H [own (.slice none 0 0) ((bej c 0).length) ((bej c 0).map B) 5 1, cel tb ([vb, .int .u64 ((c : Nat) : Int), vl]) 160, own vb b.length (b.map B) 5 1, own vl l.length (l.map B) 5 1] (congrArg (fun z_ => [z_, cel tb ([vb, .int .u64 ((c : Nat) : Int), vl]) 160, own vb b.length (b.map B) 5 1, own vl l.length (l.map B) 5 1]) (show own (.slice none 0 0) (([] : List UInt8).length) (([] : List UInt8).map B) 5 1 = own (.slice none 0 0) ((bej c 0).length) ((bej c 0).map B) 5 1 from ownM_cast bej_0.symm)) ?_
  refine tk_loop (X := Nat × Value) (fun (j, vo) => j ≤ 8) (fun (j, vo) => [(0, .pointer (some ⟨tb, 0, none⟩)), (2, vo), (3, I (56 - 8 * (j : Int)))]) (fun (j, vo) => [own vo ((bej c j).length) ((bej c j).map B) 5 1, cel tb ([vb, .int .u64 ((c : Nat) : Int), vl]) 160, own vb b.length (b.map B) 5 1, own vl l.length (l.map B) 5 1]) (fun (j, vo) => 8 - j) ((0, .slice none 0 0)) (Nat.zero_le _) (by repeat (first | exact trivial | refine ⟨rfl, ?_⟩)) ((List.Sublist.refl _)) ?_
  rintro ⟨j, vo⟩ hI
  try dsimp only at hI ⊢
  have hlen : (bej c j).length = j := bej_len
  refine tk_own1 (.head _) fun hfo => ?_
  refine tk_seq ?_
  refine tk_seq ?_
  refine tk_region ?_
  refine tk_q rfl rfl rfl (y_move rfl) ?_
  refine tk_q rfl rfl rfl (y_geq rfl rfl) ?_
  refine tk_nil ?_
  refine tk_then ?_
  refine tk_condP rfl (fun ht6 => ?_) (fun ht6 => ?_)
  · skip
    refine tk_skip ?_
    refine tk_then ?_
    refine tk_seq ?_
    refine tk_block ?_
    refine tk_region ?_
    refine tk_re 3 (I (56 - 8 * (j : Int))) (I ((56 - 8 * j : Nat) : Int)) rfl (congrArg I (by omega)) ?_
    refine tk_q rfl rfl rfl (y_move rfl) ?_
    refine tk_q rfl rfl rfl (y_move rfl) ?_
    refine tk_q rfl rfl rfl (y_nilCheck rfl) ?_
    refine tk_q rfl rfl rfl (y_fldN (o := 0) 1 rfl (by kernel_rfl)) ?_
    refine tk_q rfl rfl rfl (y_load rfl rfl (hc (o := 1) (.tail _ (.head _)) (rfl))) ?_
    refine tk_q rfl rfl rfl (y_move rfl) ?_
    refine tk_q rfl rfl rfl (y_shrN (a := c) (m := 56 - 8 * j) rfl rfl (by simp [IntKind.bits]; omega)) ?_
    refine tk_q rfl rfl rfl (y_convi8 (m := c / 2 ^ (56 - 8 * j)) rfl rfl rfl) ?_
    refine tk_act rfl ?_; refine a_slitN (vs := [B (UInt8.ofNat (c / 2 ^ (56 - 8 * j)))]) rfl (List.forall_mem_cons.2 ⟨rfl, (fun _ h => nomatch h)⟩) (EL26) rfl rfl (by decide) fun b17 => ?_
    refine tk_act rfl ?_; refine a_appM (H1 := [_]) (f := B) (l := bej c j) (m := [UInt8.ofNat (c / 2 ^ (56 - 8 * j))]) rfl rfl EL26 rfl rfl (fun w hw => cel_rdE (o := 0) (m := 1) (cp := 1) (vs := [UInt8.ofNat (c / 2 ^ (56 - 8 * j))].map B) (hw.mem (.head _)) (rfl) (by first | rfl | (simp; done) | (simp; omega)) (by first | omega | (simp; done) | (simp; omega))) (fun _ => rfl) ⟨lenP, lenP⟩ fun v18 => ?_
    refine tk_own1 (.tail _ (.head _)) fun hfv18 => ?_
    refine tk_q rfl rfl rfl (y_assign rfl) ?_
    refine tk_nil ?_
    refine tk_in_normal ?_
    refine tk_then ?_
    refine tk_region ?_
    refine tk_re 3 (I ((56 - 8 * j : Nat) : Int)) (I (56 - 8 * (j : Int))) rfl (congrArg I (by omega)) ?_
    refine tk_q rfl rfl rfl (y_move rfl) ?_
    refine tk_q rfl rfl rfl (y_subI rfl rfl (by omega)) ?_
    refine tk_q rfl rfl rfl (y_assign rfl) ?_
    refine tk_nil ?_
    refine tk_re 3 (I ((56 - 8 * (j : Int)) - (8 : Int))) (I (56 - 8 * ((j + 1 : Nat) : Int))) rfl (congrArg I (by omega)) ?_
    refine tk_H [cel b17 ([B (UInt8.ofNat (c / 2 ^ (56 - 8 * j)))]) 5, own v18 ((bej c (j + 1)).length) ((bej c (j + 1)).map B) 5 1, cel tb ([vb, .int .u64 ((c : Nat) : Int), vl]) 160, own vb b.length (b.map B) 5 1, own vl l.length (l.map B) 5 1] (congrArg (fun z_ => [cel b17 ([B (UInt8.ofNat (c / 2 ^ (56 - 8 * j)))]) 5, z_, cel tb ([vb, .int .u64 ((c : Nat) : Int), vl]) 160, own vb b.length (b.map B) 5 1, own vl l.length (l.map B) 5 1]) (show own v18 (((bej c j) ++ [UInt8.ofNat (c / 2 ^ (56 - 8 * j))]).length) (((bej c j) ++ [UInt8.ofNat (c / 2 ^ (56 - 8 * j))]).map B) 5 1 = own v18 ((bej c (j + 1)).length) ((bej c (j + 1)).map B) 5 1 from ownM_cast bej_snoc)) ?_
    exact tk_again ((j + 1, v18)) (by dsimp only; omega) (by dsimp only; omega) (by repeat (first | exact trivial | refine ⟨rfl, ?_⟩)) (.cons _ (List.Sublist.refl _))
  · skip
    refine tk_H [own vo ((be8 c).length) ((be8 c).map B) 5 1, cel tb ([vb, .int .u64 ((c : Nat) : Int), vl]) 160, own vb b.length (b.map B) 5 1, own vl l.length (l.map B) 5 1] (congrArg (fun z_ => [z_, cel tb ([vb, .int .u64 ((c : Nat) : Int), vl]) 160, own vb b.length (b.map B) 5 1, own vl l.length (l.map B) 5 1]) (show own vo ((bej c j).length) ((bej c j).map B) 5 1 = own vo ((be8 c).length) ((be8 c).map B) 5 1 from ownM_cast (by rw [show j = 8 by omega, be8_def]))) ?_
    refine tk_own1 (.head _) fun hfo => ?_
    refine tk_exit ?_
    refine tk_then_exit ?_
    refine tk_then_exit ?_
    refine tk_in_hit ?_
    refine tk_then ?_
    refine tk_seq ?_
    refine tk_region ?_
    refine tk_q rfl rfl rfl (y_move rfl) ?_
    refine tk_q rfl rfl rfl (y_nilCheck rfl) ?_
    refine tk_q rfl rfl rfl (y_fld0 (o := 0) rfl (by kernel_rfl)) ?_
    refine tk_q rfl rfl rfl (y_load rfl rfl (hc (o := 0) (.tail _ (.head _)) (rfl))) ?_
    refine tk_q rfl rfl rfl (y_move rfl) ?_
    refine tk_act rfl ?_; refine a_slitN (vs := [vb, vo]) rfl (List.forall_mem_cons.2 ⟨(RdS.one hfb.choose_spec), (List.forall_mem_cons.2 ⟨(RdS.one hfo.choose_spec), (fun _ h => nomatch h)⟩)⟩) (EL45) rfl rfl (by decide) fun b24 => ?_
    refine tk_act rfl ?_; refine a_callv [] _ rfl (by kernel_rfl) rfl (fun w' hw' => of_spec (ps := [(vb, b), (vo, be8 c)]) (L := b ++ (be8 c)) (Ro.cel (vs := [vb, vo]) hw' (.head _) (by first | rfl | simp) rfl (by decide)) (List.forall_mem_cons.2 ⟨(Ro.own (H0 := []) hw' (.tail _ (.tail _ (.tail _ (.head _))))), (List.forall_mem_cons.2 ⟨(Ro.own (H0 := []) hw' (.tail _ (.head _))), (fun _ h => nomatch h)⟩)⟩) (by simp) lenP lenP (hg.call hw')) rfl fun _ _ => ?_
    refine tk_act rfl ?_; refine a_allocL (cs := (List.replicate 32 0).map B) (by kernel_rfl) rfl fun b4 => ?_
    refine tk_act rfl ?_; refine a_storeW (H1 := []) (vs := (sumL (b ++ (be8 c))).map B) 32 rfl rfl (by kernel_rfl) rfl ⟨lenP, lenP⟩ oneB ?_
    refine tk_nil ?_
    refine tk_then ?_
    refine tk_seq ?_
    refine tk_drawH [cel b4 ((sumL (b ++ (be8 c))).map B) 22, cel b24 ([vb, vo]) 26, own vo ((be8 c).length) ((be8 c).map B) 5 1, cel tb ([vb, .int .u64 ((c : Nat) : Int), vl]) 160, own vb b.length (b.map B) 5 1] [9] (by kernel_rfl) ?_
    refine tx_q 0 rfl (by kernel_rfl) rfl rfl rfl (fun _ _ _ h => h) (y_move rfl) ?_
    refine tx_q 1 rfl (by kernel_rfl) rfl rfl rfl (fun _ _ _ h => h) (y_move rfl) ?_
    refine tx_q 2 rfl (by kernel_rfl) rfl rfl rfl (fun _ _ _ h => h) (y_nilCheck rfl) ?_
    refine tx_q 3 rfl (by kernel_rfl) rfl rfl rfl (fun _ _ _ h => h) (y_fldN (o := 0) 2 rfl (by kernel_rfl)) ?_
    refine tx_l 4 rfl (by kernel_rfl) (by kernel_rfl) rfl rfl rfl (fun _ _ _ h => h) (fun _ h => h.sub (.cons_cons _ (.cons_cons _ (.cons_cons _ (.cons_cons _ (.cons_cons _ (List.nil_sublist _))))))) (y_load rfl rfl (hc (o := 2) (.tail _ (.tail _ (.tail _ (.head _)))) (rfl))) ?_
    refine tx_q 5 rfl (by kernel_rfl) rfl rfl rfl (fun _ _ _ h => h) (y_cutA (m := 32) (sz := 1) rfl (by kernel_rfl)) ?_
    refine tx_a 6 rfl (by kernel_rfl) rfl ?_; refine a_appM (H1 := [_, _, _, _, _]) (f := B) (l := l) (m := sumL (b ++ (be8 c))) rfl rfl EL26 rfl rfl (fun w hw => cel_rdE (o := 0) (m := 32) (cp := 32) (vs := (sumL (b ++ (be8 c))).map B) (hw.mem (.head _)) (dsW) (by first | rfl | (simp; done) | (simp; omega)) (by first | omega | (simp; done) | (simp; omega))) (fun _ => rfl) ⟨lenP, lenP⟩ fun v32 => ?_
    refine tk_own1 (.tail _ (.tail _ (.tail _ (.tail _ (.tail _ (.head _)))))) fun hfv32 => ?_
    refine tk_S (fun _ h => h.sub (.cons_cons _ (.cons_cons _ (.cons_cons _ (.cons_cons _ (.cons_cons _ (List.nil_sublist _))))))) ?_
    refine tk_own1 (.tail _ (.tail _ (.tail _ (.tail _ (.tail _ (.head _)))))) fun hf32 => ?_
    refine tx_q 7 rfl (by kernel_rfl) rfl rfl rfl (fun _ _ _ h => h) (y_nilCheck rfl) ?_
    refine tx_q 8 rfl (by kernel_rfl) rfl rfl rfl (fun _ _ _ h => h) (y_fldN (o := 0) 2 rfl (by kernel_rfl)) ?_
    refine tx_x 9 rfl (by kernel_rfl) rfl rfl ?_; refine a_storeE (H1 := [_, _, _]) (o := 2) (v := v32) (cs' := [vb, .int .u64 ((c : Nat) : Int), v32]) rfl rfl (by kernel_rfl) (RdS.one hf32.choose_spec) rfl (by first | (simp; done) | (simp; omega)) (rfl) ?_
    refine tx_done (by kernel_rfl) ?_
    refine tk_then ?_
    refine tk_region ?_
    refine tk_q rfl rfl rfl (y_move rfl) ?_
    refine tk_q rfl rfl rfl (y_nilCheck rfl) ?_
    refine tk_q rfl rfl rfl (y_fldN (o := 0) 1 rfl (by kernel_rfl)) ?_
    refine tk_q rfl rfl rfl (y_load rfl rfl (hc (o := 1) (.tail _ (.tail _ (.tail _ (.head _)))) (rfl))) ?_
    refine tk_q rfl rfl rfl (y_addU (a := c) (b := 1) rfl rfl (by omega)) ?_
    refine tk_q rfl rfl rfl (y_nilCheck rfl) ?_
    refine tk_q rfl rfl rfl (y_fldN (o := 0) 1 rfl (by kernel_rfl)) ?_
    refine tk_act rfl ?_; refine a_storeE (H1 := [_, _, _]) (o := 1) (v := .int .u64 ((c + 1 : Nat) : Int)) (cs' := [vb, .int .u64 ((c + 1 : Nat) : Int), v32]) rfl rfl (by kernel_rfl) rfl rfl (by first | (simp; done) | (simp; omega)) (rfl) ?_
    refine tk_nil ?_
    exact tk_ret (v32) (trivial) (.inr rfl) (r0 rfl) (.cons _ (.cons _ (.cons _ (List.Sublist.refl _))))
end Go.Proofs.YtfofkjajlfphjaaDoor

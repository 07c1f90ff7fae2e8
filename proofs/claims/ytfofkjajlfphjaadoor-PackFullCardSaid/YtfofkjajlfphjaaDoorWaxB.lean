/- wax's reference: the walks over mark, DocSeal and DocOpen. -/
import Derived.Test.YtfofkjajlfphjaaDoorWaxA
import Derived.Test.YtfofkjajlfphjaaDoorCipI
set_option linter.unusedSimpArgs false
set_option linter.unusedVariables false
namespace Go.Proofs.YtfofkjajlfphjaaDoor
open Go Go.RowKit
set_option maxRecDepth 100000
attribute [local irreducible] hidL markL sealL sealF openF keyedL Cip.keyW Cip.hideL
theorem rmark_spec {hk mk name N h : List UInt8} {kind : UInt8} {w : World} (h2 : hk.length = 32 ∧ mk.length = 32) (hb : name.length < 4294967296 ∧ N.length < 4294967296 ∧ h.length < 4294967296) :
    Spec Tryd.prog 48 [.agg (hk.map B ++ (mk.map B)).toArray, B kind, Str name, Str N, Str h] w [] (fun _ : Unit => True) (fun _ => Str (markL mk kind name N h)) (fun _ => []) := by
  obtain ⟨hk32, mk32⟩ := h2
  refine spec_of (n := 27) Tryd.func48 rfl rfl trivial trivial rfl ?_
  refine tk_seq ?_
  refine tk_region ?_
  refine tk_act rfl ?_; refine a_boxL (cs := hk.map B ++ (mk.map B)) rfl rfl fun b5 => ?_
  refine tk_q rfl rfl rfl (y_assign rfl) ?_
  refine tk_nil ?_
  refine tk_then ?_
  refine tk_seq ?_
  refine tk_drawH [cel b5 (hk.map B ++ (mk.map B)) 24] [] (by kernel_rfl) ?_
  refine tx_q 0 rfl (by kernel_rfl) rfl rfl rfl (fun _ _ _ h => h) (y_fldN (o := 0) 32 rfl (by kernel_rfl)) ?_
  refine tx_q 1 rfl (by kernel_rfl) rfl rfl rfl (fun _ _ _ h => h) (y_cutA (m := 32) (sz := 1) rfl (by kernel_rfl)) ?_
  refine tx_l 2 rfl (by kernel_rfl) (by kernel_rfl) rfl rfl rfl (fun _ _ _ h => h) (fun _ h => h.sub (List.Sublist.refl _)) (y_str (l := mk) rfl rfl rfl rfl (fun w hw => cel_rdE (o := 32) (m := 32) (cp := 32) (vs := mk.map B) (hw.mem (.head _)) (dsA (k := 32) (i := 0) (by rw [List.length_map]; exact hk32) (by omega) (dsW)) (by first | rfl | (simp; done) | (simp; omega)) (by first | omega | (simp; done) | (simp; omega)))) ?_
  refine tx_q 3 rfl (by kernel_rfl) rfl rfl rfl (fun _ _ _ h => h) (y_move rfl) ?_
  refine tx_q 4 rfl (by kernel_rfl) rfl rfl rfl (fun _ _ _ h => h) (y_move rfl) ?_
  refine tx_q 5 rfl (by kernel_rfl) rfl rfl rfl (fun _ _ _ h => h) (y_lenStr (l := name) rfl rfl) ?_
  refine tx_q 6 rfl (by kernel_rfl) rfl rfl rfl (fun _ _ _ h => h) (y_convi8 (m := name.length) rfl rfl rfl) ?_
  refine tx_q 9 rfl (by kernel_rfl) rfl rfl rfl (fun _ _ _ h => h) (y_move rfl) ?_
  refine tx_q 11 rfl (by kernel_rfl) rfl rfl rfl (fun _ _ _ h => h) (y_move rfl) ?_
  refine tx_q 13 rfl (by kernel_rfl) rfl rfl rfl (fun _ _ _ h => h) (y_move rfl) ?_
  refine tx_a 7 rfl (by kernel_rfl) rfl ?_; refine a_slitN (vs := [B kind, B (UInt8.ofNat name.length)]) rfl (List.forall_mem_cons.2 ⟨rfl, (List.forall_mem_cons.2 ⟨rfl, (fun _ h => nomatch h)⟩)⟩) (EL26) rfl rfl (by decide) fun b18 => ?_
  refine tk_S (fun _ h => h.sub (.cons _ (List.Sublist.refl _))) ?_
  refine tx_more [cel b18 ([B kind, B (UInt8.ofNat name.length)]) 5, cel b5 (hk.map B ++ (mk.map B)) 24] (fun _ h => h.sub (.cons _ (List.Sublist.refl _))) (fun _ h => h.sub (List.Sublist.refl _)) ?_
  refine tx_l 8 rfl (by kernel_rfl) (by kernel_rfl) rfl rfl rfl (fun _ _ _ h => h) (fun _ h => h.sub (List.Sublist.refl _)) (y_str (l := [kind, UInt8.ofNat name.length]) rfl rfl rfl rfl (fun w hw => cel_rdE (o := 0) (m := 2) (cp := 2) (vs := [kind, UInt8.ofNat name.length].map B) (hw.mem (.head _)) (rfl) (by first | rfl | (simp; done) | (simp; omega)) (by first | omega | (simp; done) | (simp; omega)))) ?_
  refine tx_q 10 rfl (by kernel_rfl) rfl rfl rfl (fun _ _ _ h => h) (y_catT (l := [kind, UInt8.ofNat name.length]) (m := name) rfl rfl lenP) ?_
  refine tx_q 12 rfl (by kernel_rfl) rfl rfl rfl (fun _ _ _ h => h) (y_catT (l := [kind, UInt8.ofNat name.length] ++ name) (m := N) rfl rfl lenP) ?_
  refine tx_q 14 rfl (by kernel_rfl) rfl rfl rfl (fun _ _ _ h => h) (y_catT (l := ([kind, UInt8.ofNat name.length] ++ name) ++ N) (m := h) rfl rfl lenP) ?_
  refine tx_a 15 rfl (by kernel_rfl) rfl ?_; refine a_callv [] _ rfl (by kernel_rfl) rfl (fun w' hw' => rkeyed_spec (k := mk) (l := (([kind, UInt8.ofNat name.length] ++ name) ++ N) ++ h) lenP lenP) rfl fun _ _ => ?_
  refine tk_S (fun _ h => h.sub (List.Sublist.refl _)) ?_
  refine tx_q 16 rfl (by kernel_rfl) rfl rfl rfl (fun _ _ _ h => h) ((y_assign rfl).cast (v := _) (u := Str (markL mk kind name N h)) (by rw [markL_def])) ?_
  refine tx_done (by kernel_rfl) ?_
  refine tk_then ?_
  refine tk_retc ?_
  exact tk_ret (()) (trivial) (.inl rfl) (r1 rfl rfl) (List.nil_sublist _)
theorem dseal_spec {hk mk name N l : List UInt8} {kind : UInt8} {w : World} (h3 : hk.length = 32 ∧ mk.length = 32 ∧ N.length = 16) (hb : name.length < 4294967296 ∧ l.length < 4294967296) :
    Spec Tryd.prog 17 [.agg (hk.map B ++ (mk.map B)).toArray, B kind, Str name, Ag N, Str l] w [] (fun _ : Unit => True) (fun _ => .tuple #[Str (sealF hk mk kind name N l).1, I (((sealF hk mk kind name N l).2 : Nat) : Int)]) (fun _ => []) := by
  refine spec_of (n := 39) Tryd.func17 rfl rfl trivial trivial rfl ?_
  obtain ⟨hk32, mk32, hN⟩ := h3
  refine tk_seq ?_
  refine tk_region ?_
  refine tk_act rfl ?_; refine a_boxL (cs := hk.map B ++ (mk.map B)) rfl rfl fun b5 => ?_
  refine tk_act rfl ?_; refine a_boxL (cs := N.map B) rfl rfl fun b8 => ?_
  refine tk_q rfl rfl rfl (y_assign rfl) ?_
  refine tk_q rfl rfl rfl (y_assign rfl) ?_
  refine tk_nil ?_
  refine tk_then ?_
  refine tk_seq ?_
  refine tk_seq ?_
  refine tk_region ?_
  refine tk_q rfl rfl rfl (y_move rfl) ?_
  refine tk_q rfl rfl rfl (y_lenStr (l := name) rfl rfl) ?_
  refine tk_q rfl rfl rfl (y_gtr rfl rfl) ?_
  refine tk_nil ?_
  refine tk_then ?_
  refine tk_condP rfl (fun ht16 => ?_) (fun ht16 => ?_)
  · skip
    refine tk_seq ?_
    refine tk_region ?_
    refine tk_q rfl rfl rfl (y_assign rfl) ?_
    refine tk_q rfl rfl rfl (y_assign rfl) ?_
    refine tk_nil ?_
    refine tk_then ?_
    refine tk_retc ?_
    refine tk_then_ret ?_
    refine tk_re 10 (Str []) (Str ((sealF hk mk kind name N l).1)) rfl (by rw [sealF_name (by omega)]) ?_
    refine tk_re 11 (I 5) (I (((sealF hk mk kind name N l).2 : Nat) : Int)) rfl (by rw [sealF_name (by omega)]; rfl) ?_
    exact tk_ret (()) (trivial) (.inl rfl) (r2 rfl rfl rfl) (List.nil_sublist _)
  · skip
    refine tk_skip ?_
    refine tk_then ?_
    refine tk_seq ?_
    refine tk_seq ?_
    refine tk_region ?_
    refine tk_q rfl rfl rfl (y_move rfl) ?_
    refine tk_q rfl rfl rfl (y_lenStr (l := l) rfl rfl) ?_
    refine tk_q rfl rfl rfl (y_gtr rfl rfl) ?_
    refine tk_nil ?_
    refine tk_then ?_
    refine tk_condP rfl (fun ht19 => ?_) (fun ht19 => ?_)
    · skip
      refine tk_seq ?_
      refine tk_region ?_
      refine tk_q rfl rfl rfl (y_assign rfl) ?_
      refine tk_q rfl rfl rfl (y_assign rfl) ?_
      refine tk_nil ?_
      refine tk_then ?_
      refine tk_retc ?_
      refine tk_then_ret ?_
      refine tk_re 10 (Str []) (Str ((sealF hk mk kind name N l).1)) rfl (by rw [sealF_big (by omega) (by omega)]) ?_
      refine tk_re 11 (I 4) (I (((sealF hk mk kind name N l).2 : Nat) : Int)) rfl (by rw [sealF_big (by omega) (by omega)]; rfl) ?_
      exact tk_ret (()) (trivial) (.inl rfl) (r2 rfl rfl rfl) (List.nil_sublist _)
    · skip
      refine tk_skip ?_
      refine tk_then ?_
      refine tk_seq ?_
      refine tk_region ?_
      refine tk_q rfl rfl rfl (y_cutA (m := 16) (sz := 1) rfl (by kernel_rfl)) ?_
      refine tk_q rfl rfl rfl (y_str (l := N) rfl rfl rfl rfl (fun w hw => cel_rdE (o := 0) (m := 16) (cp := 16) (vs := N.map B) (hw.mem (.head _)) (dsW) (by first | rfl | (simp; done) | (simp; omega)) (by first | omega | (simp; done) | (simp; omega)))) ?_
      refine tk_q rfl rfl rfl (y_assign rfl) ?_
      refine tk_nil ?_
      refine tk_then ?_
      refine tk_seq ?_
      refine tk_region ?_
      refine tk_q rfl rfl rfl (y_fld0 (o := 0) rfl (by kernel_rfl)) ?_
      refine tk_q rfl rfl rfl (y_cutA (m := 32) (sz := 1) rfl (by kernel_rfl)) ?_
      refine tk_q rfl rfl rfl (y_str (l := hk) rfl rfl rfl rfl (fun w hw => cel_rdE (o := 0) (m := 32) (cp := 32) (vs := hk.map B) (hw.mem (.tail _ (.head _))) (dsW1) (by first | rfl | (simp; done) | (simp; omega)) (by first | omega | (simp; done) | (simp; omega)))) ?_
      refine tk_act rfl ?_; refine a_callv [] _ rfl (by kernel_rfl) rfl (fun w' hw' => Cip.rmake_spec hk w' lenP) rfl fun ⟨r25, q25⟩ _ => ?_
      refine tk_q rfl rfl rfl (y_move rfl) ?_
      refine tk_q rfl rfl rfl (y_move rfl) ?_
      refine tk_act rfl ?_; refine a_callv [] _ rfl (by kernel_rfl) rfl (fun w' hw' => Cip.rhide_spec r25 q25 0 (Cip.keyW hk) N l w' lenP (Cip.RK.of (hw'.mem (.head _)) (hw'.mem (.tail _ (.head _))) (Cip.keyW_len lenP)) (by decide) lenP) rfl fun _ _ => ?_
      refine tk_re 28 (Str (Cip.hideL (Cip.keyW hk) N 0 l)) (Str (hidL hk N l)) rfl (by rw [hidL_def]) ?_
      refine tk_q rfl rfl rfl (y_assign rfl) ?_
      refine tk_nil ?_
      refine tk_then ?_
      refine tk_seq ?_
      refine tk_region ?_
      refine tk_q rfl rfl rfl (y_move rfl) ?_
      refine tk_q rfl rfl rfl (y_move rfl) ?_
      refine tk_q rfl rfl rfl (y_catT (l := N) (m := hidL hk N l) rfl rfl lenP) ?_
      refine tk_q rfl rfl rfl (y_loadA 64 rfl (by kernel_rfl) lenP (hcw (.tail _ (.tail _ (.tail _ (.head _)))))) ?_
      refine tk_q rfl rfl rfl (y_move rfl) ?_
      refine tk_q rfl rfl rfl (y_move rfl) ?_
      refine tk_q rfl rfl rfl (y_move rfl) ?_
      refine tk_q rfl rfl rfl (y_move rfl) ?_
      refine tk_act rfl ?_; refine a_callv [] _ rfl (by kernel_rfl) rfl (fun w' hw' => rmark_spec (hk := hk) (mk := mk) (kind := kind) (name := name) (N := N) (h := hidL hk N l) ⟨lenP, lenP⟩ ⟨lenP, lenP, lenP⟩) rfl fun _ _ => ?_
      refine tk_q rfl rfl rfl (y_catT (l := N ++ (hidL hk N l)) (m := markL mk kind name N (hidL hk N l)) rfl rfl lenP) ?_
      refine tk_q rfl rfl rfl (y_assign rfl) ?_
      refine tk_q rfl rfl rfl (y_assign rfl) ?_
      refine tk_nil ?_
      refine tk_then ?_
      refine tk_retc ?_
      refine tk_re 10 (Str ((N ++ (hidL hk N l)) ++ (markL mk kind name N (hidL hk N l)))) (Str ((sealF hk mk kind name N l).1)) rfl (by rw [sealF_ok (by omega) (by omega)]; exact congrArg Str sealL_def) ?_
      refine tk_re 11 (I 0) (I (((sealF hk mk kind name N l).2 : Nat) : Int)) rfl (by rw [sealF_ok (by omega) (by omega)]; rfl) ?_
      exact tk_ret (()) (trivial) (.inl rfl) (r2 rfl rfl rfl) (List.nil_sublist _)
theorem dopen_spec {hk mk name b : List UInt8} {kind : UInt8} {w : World} (h2 : hk.length = 32 ∧ mk.length = 32) (hb : name.length < 4294967296 ∧ b.length < 4294967296) :
    Spec Tryd.prog 20 [.agg (hk.map B ++ (mk.map B)).toArray, B kind, Str name, Str b] w [] (fun _ : Unit => True) (fun _ => .tuple #[Str (openF hk mk kind name b).1, I (((openF hk mk kind name b).2 : Nat) : Int)]) (fun _ => []) := by
  refine spec_of (n := 52) Tryd.func20 rfl rfl trivial trivial rfl ?_
  obtain ⟨hk32, mk32⟩ := h2
  refine tk_seq ?_
  refine tk_region ?_
  refine tk_act rfl ?_; refine a_boxL (cs := hk.map B ++ (mk.map B)) rfl rfl fun b4 => ?_
  refine tk_q rfl rfl rfl (y_assign rfl) ?_
  refine tk_q rfl rfl rfl (y_assign rfl) ?_
  refine tk_nil ?_
  refine tk_then ?_
  refine tk_seq ?_
  refine tk_seq ?_
  refine tk_region ?_
  refine tk_q rfl rfl rfl (y_move rfl) ?_
  refine tk_q rfl rfl rfl (y_lenStr (l := name) rfl rfl) ?_
  refine tk_q rfl rfl rfl (y_gtr rfl rfl) ?_
  refine tk_nil ?_
  refine tk_then ?_
  refine tk_condP rfl (fun ht15 => ?_) (fun ht15 => ?_)
  · skip
    refine tk_seq ?_
    refine tk_region ?_
    refine tk_q rfl rfl rfl (y_assign rfl) ?_
    refine tk_q rfl rfl rfl (y_assign rfl) ?_
    refine tk_nil ?_
    refine tk_then ?_
    refine tk_retc ?_
    refine tk_then_ret ?_
    refine tk_re 8 (Str []) (Str ((openF hk mk kind name b).1)) rfl (by rw [openF_name (by omega)]) ?_
    refine tk_re 9 (I 5) (I (((openF hk mk kind name b).2 : Nat) : Int)) rfl (by rw [openF_name (by omega)]; rfl) ?_
    exact tk_ret (()) (trivial) (.inl rfl) (r2 rfl rfl rfl) (List.nil_sublist _)
  · skip
    refine tk_skip ?_
    refine tk_then ?_
    refine tk_seq ?_
    refine tk_seq ?_
    refine tk_region ?_
    refine tk_q rfl rfl rfl (y_move rfl) ?_
    refine tk_q rfl rfl rfl (y_lenStr (l := b) rfl rfl) ?_
    refine tk_qs rfl rfl rfl (y_lss rfl rfl) (fun hs3_2 => ?_) (fun hs3_2 => ?_)
    · skip
      refine tk_q rfl rfl rfl (y_move rfl) ?_
      refine tk_gno rfl rfl rfl ?_
      refine tk_gno rfl rfl rfl ?_
      refine tk_gno rfl rfl rfl ?_
      refine tk_gno rfl rfl rfl ?_
      refine tk_q rfl rfl rfl (y_pick1 rfl rfl) ?_
      refine tk_nil ?_
      refine tk_then ?_
      refine tk_cond1 rfl ?_
      refine tk_seq ?_
      refine tk_region ?_
      refine tk_q rfl rfl rfl (y_assign rfl) ?_
      refine tk_q rfl rfl rfl (y_assign rfl) ?_
      refine tk_nil ?_
      refine tk_then ?_
      refine tk_retc ?_
      refine tk_then_ret ?_
      refine tk_re 8 (Str []) (Str ((openF hk mk kind name b).1)) rfl (by rw [openF_len (by omega) (by omega)]) ?_
      refine tk_re 9 (I 10) (I (((openF hk mk kind name b).2 : Nat) : Int)) rfl (by rw [openF_len (by omega) (by omega)]; rfl) ?_
      exact tk_ret (()) (trivial) (.inl rfl) (r2 rfl rfl rfl) (List.nil_sublist _)
    · skip
      refine tk_q rfl rfl rfl (y_move rfl) ?_
      refine tk_gq rfl rfl rfl (y_move rfl) ?_
      refine tk_gq rfl rfl rfl (y_lenStr (l := b) rfl rfl) ?_
      refine tk_gq rfl rfl rfl (y_subN (a := b.length) (b := 48) rfl rfl (by omega)) ?_
      refine tk_gq rfl rfl rfl (y_gtr rfl rfl) ?_
      refine tk_q rfl rfl rfl (y_pick0 rfl rfl) ?_
      refine tk_nil ?_
      refine tk_then ?_
      refine tk_condP rfl (fun ht24 => ?_) (fun ht24 => ?_)
      · skip
        refine tk_seq ?_
        refine tk_region ?_
        refine tk_q rfl rfl rfl (y_assign rfl) ?_
        refine tk_q rfl rfl rfl (y_assign rfl) ?_
        refine tk_nil ?_
        refine tk_then ?_
        refine tk_retc ?_
        refine tk_then_ret ?_
        refine tk_re 8 (Str []) (Str ((openF hk mk kind name b).1)) rfl (by rw [openF_len (by omega) (by omega)]) ?_
        refine tk_re 9 (I 10) (I (((openF hk mk kind name b).2 : Nat) : Int)) rfl (by rw [openF_len (by omega) (by omega)]; rfl) ?_
        exact tk_ret (()) (trivial) (.inl rfl) (r2 rfl rfl rfl) (List.nil_sublist _)
      · skip
        refine tk_skip ?_
        refine tk_then ?_
        refine tk_seq ?_
        refine tk_drawH [cel b4 (hk.map B ++ (mk.map B)) 24] [] (by kernel_rfl) ?_
        refine tx_q 0 rfl (by kernel_rfl) rfl rfl rfl (fun _ _ _ h => h) (y_move rfl) ?_
        refine tx_q 1 rfl (by kernel_rfl) rfl rfl rfl (fun _ _ _ h => h) (y_cutTh (l := b) (hi := 16) rfl rfl rfl (by omega)) ?_
        refine tx_q 2 rfl (by kernel_rfl) rfl rfl rfl (fun _ _ _ h => h) (y_move rfl) ?_
        refine tx_q 3 rfl (by kernel_rfl) rfl rfl rfl (fun _ _ _ h => h) (y_move rfl) ?_
        refine tx_q 4 rfl (by kernel_rfl) rfl rfl rfl (fun _ _ _ h => h) (y_lenStr (l := b) rfl rfl) ?_
        refine tx_q 5 rfl (by kernel_rfl) rfl rfl rfl (fun _ _ _ h => h) (y_subN (a := b.length) (b := 32) rfl rfl (by omega)) ?_
        refine tx_q 6 rfl (by kernel_rfl) rfl rfl rfl (fun _ _ _ h => h) (y_cutTlh (l := b) (lo := 16) (hi := b.length - 32) rfl rfl rfl rfl (by omega)) ?_
        refine tx_q 7 rfl (by kernel_rfl) rfl rfl rfl (fun _ _ _ h => h) (y_move rfl) ?_
        refine tx_q 8 rfl (by kernel_rfl) rfl rfl rfl (fun _ _ _ h => h) (y_move rfl) ?_
        refine tx_q 9 rfl (by kernel_rfl) rfl rfl rfl (fun _ _ _ h => h) (y_lenStr (l := b) rfl rfl) ?_
        refine tx_q 10 rfl (by kernel_rfl) rfl rfl rfl (fun _ _ _ h => h) (y_subN (a := b.length) (b := 32) rfl rfl (by omega)) ?_
        refine tx_q 11 rfl (by kernel_rfl) rfl rfl rfl (fun _ _ _ h => h) (y_cutTl (l := b) (lo := b.length - 32) rfl rfl rfl (by omega)) ?_
        refine tx_q 12 rfl (by kernel_rfl) rfl rfl rfl (fun _ _ _ h => h) (y_assign rfl) ?_
        refine tx_q 13 rfl (by kernel_rfl) rfl rfl rfl (fun _ _ _ h => h) (y_assign rfl) ?_
        refine tx_q 14 rfl (by kernel_rfl) rfl rfl rfl (fun _ _ _ h => h) (y_assign rfl) ?_
        refine tx_done (by kernel_rfl) ?_
        refine tk_then ?_
        refine tk_seq ?_
        refine tk_seq ?_
        refine tk_region ?_
        refine tk_q rfl rfl rfl (y_loadA 64 rfl (by kernel_rfl) lenP (hcw (.head _))) ?_
        refine tk_q rfl rfl rfl (y_move rfl) ?_
        refine tk_q rfl rfl rfl (y_move rfl) ?_
        refine tk_q rfl rfl rfl (y_move rfl) ?_
        refine tk_q rfl rfl rfl (y_move rfl) ?_
        refine tk_act rfl ?_; refine a_callv [] _ rfl (by kernel_rfl) rfl (fun w' hw' => rmark_spec (hk := hk) (mk := mk) (kind := kind) (name := name) (N := b.take 16) (h := (b.drop 16).take ((b.length - 32) - 16)) ⟨lenP, lenP⟩ ⟨lenP, lenP, lenP⟩) rfl fun _ _ => ?_
        refine tk_q rfl rfl rfl (y_move rfl) ?_
        refine tk_q rfl rfl rfl (y_strNe (l := markL mk kind name (b.take 16) ((b.drop 16).take ((b.length - 32) - 16))) (m := b.drop (b.length - 32)) rfl rfl) ?_
        refine tk_nil ?_
        refine tk_then ?_
        refine tk_condP rfl (fun ht44 => ?_) (fun ht44 => ?_)
        · skip
          refine tk_seq ?_
          refine tk_region ?_
          refine tk_q rfl rfl rfl (y_assign rfl) ?_
          refine tk_q rfl rfl rfl (y_assign rfl) ?_
          refine tk_nil ?_
          refine tk_then ?_
          refine tk_retc ?_
          refine tk_then_ret ?_
          refine tk_re 8 (Str []) (Str ((openF hk mk kind name b).1)) rfl (by rw [openF_no (by omega) (by omega) ht44]) ?_
          refine tk_re 9 (I 10) (I (((openF hk mk kind name b).2 : Nat) : Int)) rfl (by rw [openF_no (by omega) (by omega) ht44]; rfl) ?_
          exact tk_ret (()) (trivial) (.inl rfl) (r2 rfl rfl rfl) (List.nil_sublist _)
        · skip
          refine tk_skip ?_
          refine tk_then ?_
          refine tk_seq ?_
          refine tk_region ?_
          refine tk_q rfl rfl rfl (y_fld0 (o := 0) rfl (by kernel_rfl)) ?_
          refine tk_q rfl rfl rfl (y_cutA (m := 32) (sz := 1) rfl (by kernel_rfl)) ?_
          refine tk_q rfl rfl rfl (y_str (l := hk) rfl rfl rfl rfl (fun w hw => cel_rdE (o := 0) (m := 32) (cp := 32) (vs := hk.map B) (hw.mem (.head _)) (dsW1) (by first | rfl | (simp; done) | (simp; omega)) (by first | omega | (simp; done) | (simp; omega)))) ?_
          refine tk_act rfl ?_; refine a_callv [] _ rfl (by kernel_rfl) rfl (fun w' hw' => Cip.rmake_spec hk w' lenP) rfl fun ⟨r48, q48⟩ _ => ?_
          refine tk_q rfl rfl rfl (y_move rfl) ?_
          refine tk_q rfl rfl rfl (y_move rfl) ?_
          refine tk_act rfl ?_; refine a_callv [] _ rfl (by kernel_rfl) rfl (fun w' hw' => Cip.rhide_spec r48 q48 0 (Cip.keyW hk) (b.take 16) ((b.drop 16).take ((b.length - 32) - 16)) w' lenP (Cip.RK.of (hw'.mem (.head _)) (hw'.mem (.tail _ (.head _))) (Cip.keyW_len lenP)) (by decide) lenP) rfl fun _ _ => ?_
          refine tk_re 51 (Str (Cip.hideL (Cip.keyW hk) (b.take 16) 0 ((b.drop 16).take (b.length - 32 - 16)))) (Str (hidL hk (b.take 16) ((b.drop 16).take (b.length - 32 - 16)))) rfl (by rw [hidL_def]) ?_
          refine tk_q rfl rfl rfl (y_assign rfl) ?_
          refine tk_q rfl rfl rfl (y_assign rfl) ?_
          refine tk_nil ?_
          refine tk_then ?_
          refine tk_retc ?_
          refine tk_re 8 (Str (hidL hk (b.take 16) ((b.drop 16).take (b.length - 32 - 16)))) (Str ((openF hk mk kind name b).1)) rfl (by rw [openF_ok (by omega) (by omega) (Decidable.of_not_not ht44)]) ?_
          refine tk_re 9 (I 0) (I (((openF hk mk kind name b).2 : Nat) : Int)) rfl (by rw [openF_ok (by omega) (by omega) (Decidable.of_not_not ht44)]; rfl) ?_
          exact tk_ret (()) (trivial) (.inl rfl) (r2 rfl rfl rfl) (List.nil_sublist _)
end Go.Proofs.YtfofkjajlfphjaaDoor

/- key: the walks over Stretch and Clone. -/
import Derived.Test.YtfofkjajlfphjaaDoorSumD
import Derived.Test.YtfofkjajlfphjaaDoorKeyPure
import Derived.Test.YtfofkjajlfphjaaDoorEngTwo
set_option linter.unusedSimpArgs false
set_option linter.unusedVariables false
namespace Go.Proofs.YtfofkjajlfphjaaDoor
open Go Go.RowKit
set_option maxRecDepth 100000
attribute [local irreducible] strL xz keyedL sumL
theorem stretch_spec {k s : List UInt8} {n : Nat} {kv sv : Value} {w : World} (hk : Ro (Fs []) w (rdB kv k)) (hs : Ro (Fs []) w (rdB sv s)) (hn : n ≤ 100000) (hb : k.length < 1099511627776 ∧ s.length < 1099511627776) (hg : Ro (Fs []) w glob) :
    Spec Tryd.prog 56 [kv, sv, I (n : Int)] w [] (fun _ : Unit => True) (fun _ => Ag (strL k s n)) (fun _ => []) := by
  refine spec_of (n := 36) Tryd.func56 rfl rfl trivial trivial rfl ?_
  refine tk_seq ?_
  refine tk_region ?_
  refine tk_act rfl ?_; refine a_allocL (cs := (List.replicate 32 0).map B) (by kernel_rfl) rfl fun b6 => ?_
  refine tk_nil ?_
  refine tk_then ?_
  refine tk_seq ?_
  refine tk_region ?_
  refine tk_q rfl rfl rfl (y_move rfl) ?_
  refine tk_q rfl rfl rfl (y_move rfl) ?_
  refine tk_act rfl ?_; refine a_slitN (vs := [sv]) rfl (List.forall_mem_cons.2 ⟨(RdS.one hs.1), (fun _ h => nomatch h)⟩) (EL45) rfl rfl (by decide) fun b12 => ?_
  refine tk_act rfl ?_; refine a_callv [] _ rfl (by kernel_rfl) rfl (fun w' hw' => keyed_spec (k := k) (ps := [(sv, s)]) (L := s) (Ro.call (H0 := []) hk hw') (Ro.cel (vs := [sv]) hw' (.head _) (by first | rfl | simp) rfl (by decide)) (List.forall_mem_cons.2 ⟨(Ro.call (H0 := []) hs hw'), (fun _ h => nomatch h)⟩) (by simp) ⟨lenP, lenP, lenP⟩ (hg.call hw')) rfl fun _ _ => ?_
  refine tk_act rfl ?_; refine a_allocL (cs := (List.replicate 32 0).map B) (by kernel_rfl) rfl fun b7 => ?_
  refine tk_act rfl ?_; refine a_storeW (H1 := []) (vs := (keyedL k s).map B) 32 rfl rfl (by kernel_rfl) rfl ⟨lenP, lenP⟩ oneB ?_
  refine tk_nil ?_
  refine tk_then ?_
  refine tk_seq ?_
  refine tk_seq ?_
  refine tk_region ?_
  refine tk_q rfl rfl rfl (y_move rfl) ?_
  refine tk_qe (I ((n : Nat) : Int)) rfl rfl rfl (y_minN (a := n) (b := 100000) rfl rfl) (by congr 2; omega) ?_
  refine tk_qe (I ((n : Nat) : Int)) rfl rfl rfl (y_maxN (a := n) (b := 0) rfl rfl) (by congr 2; omega) ?_
  refine tk_q rfl rfl rfl (y_move rfl) ?_
  refine tk_nil ?_
  refine tk_then ?_
  refine tk_block ?_
  refine tk_H [cel b7 ((strL k s 0).map B) 22, cel b12 ([sv]) 26, cel b6 ((List.replicate 32 0).map B) 22] (congrArg (fun z_ => [cel b7 z_ 22, cel b12 ([sv]) 26, cel b6 ((List.replicate 32 0).map B) 22]) (show (keyedL k s).map B = (strL k s 0).map B from by rw [strL_0])) ?_
  refine tk_loop (X := Nat) (fun i => i ≤ n) (fun i => [(0, kv), (6, .pointer (some ⟨b6, 0, none⟩)), (7, .pointer (some ⟨b7, 0, none⟩)), (16, I ((n : Nat) : Int)), (17, I ((i : Nat) : Int))]) (fun i => [cel b7 ((strL k s i).map B) 22, cel b12 ([sv]) 26, cel b6 ((List.replicate 32 0).map B) 22]) (fun i => n - i) (0) (by first | exact trivial | omega | (dsimp only; omega)) (by repeat (first | exact trivial | refine ⟨rfl, ?_⟩)) ((List.Sublist.refl _)) ?_
  rintro i hI
  try dsimp only at hI ⊢
  have hn32 : (strL k s i).length = 32 := strL_len
  refine tk_seq ?_
  refine tk_region ?_
  refine tk_q rfl rfl rfl (y_lss rfl rfl) ?_
  refine tk_nil ?_
  refine tk_then ?_
  refine tk_seq ?_
  refine tk_condP rfl (fun ht18 => ?_) (fun ht18 => ?_)
  · skip
    refine tk_skip ?_
    refine tk_then ?_
    refine tk_seq ?_
    refine tk_block ?_
    refine tk_seq ?_
    refine tk_region ?_
    refine tk_q rfl rfl rfl (y_move rfl) ?_
    refine tk_q rfl rfl rfl (y_cutA (m := 32) (sz := 1) rfl (by kernel_rfl)) ?_
    refine tk_act rfl ?_; refine a_slitN (vs := [.slice (some ⟨b7, 0, none⟩) 32 32]) rfl (List.forall_mem_cons.2 ⟨rfl, (fun _ h => nomatch h)⟩) (EL45) rfl rfl (by decide) fun b21 => ?_
    refine tk_act rfl ?_; refine a_callv [] _ rfl (by kernel_rfl) rfl (fun w' hw' => keyed_spec (k := k) (ps := [(.slice (some ⟨b7, 0, none⟩) 32 32, strL k s i)]) (L := strL k s i) (Ro.call (H0 := []) hk hw') (Ro.cel (vs := [.slice (some ⟨b7, 0, none⟩) 32 32]) hw' (.head _) (by first | rfl | simp) rfl (by decide)) (List.forall_mem_cons.2 ⟨(Ro.cel (H0 := []) (b := b7) (o := 0) (m := 32) (cp := 32) (vs := (strL k s i).map B) hw' (.tail _ (.head _)) (dsW) (by first | rfl | (simp; done) | (simp; omega)) (by first | omega | (simp; done) | (simp; omega))), (fun _ h => nomatch h)⟩) (by simp) ⟨lenP, lenP, lenP⟩ (hg.call hw')) rfl fun _ _ => ?_
    refine tk_q rfl rfl rfl (y_move rfl) ?_
    refine tk_nil ?_
    refine tk_then ?_
    refine tk_block ?_
    refine tk_H [cel b21 ([Value.slice (some ⟨b7, 0, none⟩) 32 32]) 26, cel b7 ((xz (strL k s i) (keyedL k (strL k s i)) 0).map B) 22, cel b12 ([sv]) 26, cel b6 ((List.replicate 32 0).map B) 22] (congrArg (fun z_ => [cel b21 ([Value.slice (some ⟨b7, 0, none⟩) 32 32]) 26, cel b7 z_ 22, cel b12 ([sv]) 26, cel b6 ((List.replicate 32 0).map B) 22]) (show (strL k s i).map B = (xz (strL k s i) (keyedL k (strL k s i)) 0).map B from by rw [xz_0 strL_len])) ?_
    refine tk_loop (X := Nat) (fun j => j ≤ 32) (fun j => [(0, kv), (6, .pointer (some ⟨b6, 0, none⟩)), (7, .pointer (some ⟨b7, 0, none⟩)), (16, I ((n : Nat) : Int)), (17, I ((i : Nat) : Int)), (22, .agg ((keyedL k (strL k s i)).map B).toArray), (23, I ((j : Nat) : Int))]) (fun j => [cel b21 ([Value.slice (some ⟨b7, 0, none⟩) 32 32]) 26, cel b7 ((xz (strL k s i) (keyedL k (strL k s i)) j).map B) 22, cel b12 ([sv]) 26, cel b6 ((List.replicate 32 0).map B) 22]) (fun j => 32 - j) (0) (by first | exact trivial | omega | (dsimp only; omega)) (by repeat (first | exact trivial | refine ⟨rfl, ?_⟩)) ((List.Sublist.refl _)) ?_
    rintro j hI
    try dsimp only at hI ⊢
    have hx : (xz (strL k s i) (keyedL k (strL k s i)) j).length = 32 := xz_len
    have hkl : (keyedL k (strL k s i)).length = 32 := keyedL_len
    refine tk_seq ?_
    refine tk_region ?_
    refine tk_q rfl rfl rfl (y_lss rfl rfl) ?_
    refine tk_nil ?_
    refine tk_then ?_
    refine tk_seq ?_
    refine tk_condP rfl (fun ht24 => ?_) (fun ht24 => ?_)
    · skip
      refine tk_skip ?_
      refine tk_then ?_
      refine tk_seq ?_
      refine tk_block ?_
      refine tk_seq ?_
      refine tk_region ?_
      refine tk_q rfl rfl rfl (y_move rfl) ?_
      refine tk_q rfl rfl rfl (y_ixVM (d0 := 0) (i := j) rfl rfl rfl rfl (fun _ => by kernel_rfl) (by omega) lenP) ?_
      refine tk_q rfl rfl rfl (y_assign rfl) ?_
      refine tk_q rfl rfl rfl (y_assign rfl) ?_
      refine tk_nil ?_
      refine tk_then ?_
      refine tk_region ?_
      refine tk_q rfl rfl rfl (y_move rfl) ?_
      refine tk_q rfl rfl rfl (y_ixA01 32 (i := j) rfl rfl (by kernel_rfl) (by omega)) ?_
      refine tk_q rfl rfl rfl (y_load rfl rfl (hc (o := j) (.tail _ (.head _)) (gM (d := 0) lenP))) ?_
      refine tk_q rfl rfl rfl (y_move rfl) ?_
      refine tk_q rfl rfl rfl (y_xor8 (a := (xz (strL k s i) (keyedL k (strL k s i)) j).getD j 0) (b := (keyedL k (strL k s i)).getD j 0) rfl rfl) ?_
      refine tk_q rfl rfl rfl (y_ixA01 32 (i := j) rfl rfl (by kernel_rfl) (by omega)) ?_
      refine tk_act rfl ?_; refine a_storeE (H1 := [_]) (o := j) (v := B (((xz (strL k s i) (keyedL k (strL k s i)) j).getD j 0) ^^^ ((keyedL k (strL k s i)).getD j 0))) (cs' := ((xz (strL k s i) (keyedL k (strL k s i)) j).set j (((xz (strL k s i) (keyedL k (strL k s i)) j).getD j 0) ^^^ ((keyedL k (strL k s i)).getD j 0))).map B) rfl rfl (by kernel_rfl) rfl rfl (by first | (simp; done) | (simp; omega)) (sM) ?_
      refine tk_nil ?_
      refine tk_in_normal ?_
      refine tk_then ?_
      refine tk_region ?_
      refine tk_q rfl rfl rfl (y_addN (a := j) (b := 1) rfl rfl (by omega)) ?_
      refine tk_q rfl rfl rfl (y_move rfl) ?_
      refine tk_nil ?_
      refine tk_H [cel b21 ([Value.slice (some ⟨b7, 0, none⟩) 32 32]) 26, cel b7 ((xz (strL k s i) (keyedL k (strL k s i)) (j + 1)).map B) 22, cel b12 ([sv]) 26, cel b6 ((List.replicate 32 0).map B) 22] (congrArg (fun z_ => [cel b21 ([Value.slice (some ⟨b7, 0, none⟩) 32 32]) 26, cel b7 z_ 22, cel b12 ([sv]) 26, cel b6 ((List.replicate 32 0).map B) 22]) (show ((xz (strL k s i) (keyedL k (strL k s i)) j).set j (((xz (strL k s i) (keyedL k (strL k s i)) j).getD j 0) ^^^ ((keyedL k (strL k s i)).getD j 0))).map B = (xz (strL k s i) (keyedL k (strL k s i)) (j + 1)).map B from congrArg (List.map B) (xz_set (by omega)))) ?_
      exact tk_again (j + 1) (by first | exact trivial | omega | (dsimp only; omega)) (by first | omega | (dsimp only; omega)) (by repeat (first | exact trivial | refine ⟨rfl, ?_⟩)) (List.Sublist.refl _)
    · skip
      refine tk_H [cel b21 ([Value.slice (some ⟨b7, 0, none⟩) 32 32]) 26, cel b7 ((strL k s (i + 1)).map B) 22, cel b12 ([sv]) 26, cel b6 ((List.replicate 32 0).map B) 22] (congrArg (fun z_ => [cel b21 ([Value.slice (some ⟨b7, 0, none⟩) 32 32]) 26, cel b7 z_ 22, cel b12 ([sv]) 26, cel b6 ((List.replicate 32 0).map B) 22]) (show (xz (strL k s i) (keyedL k (strL k s i)) j).map B = (strL k s (i + 1)).map B from by rw [show j = 32 by omega, strL_succ])) ?_
      refine tk_exit ?_
      refine tk_then_exit ?_
      refine tk_then_exit ?_
      refine tk_in_hit ?_
      refine tk_in_normal ?_
      refine tk_then ?_
      refine tk_region ?_
      refine tk_q rfl rfl rfl (y_addN (a := i) (b := 1) rfl rfl (by omega)) ?_
      refine tk_q rfl rfl rfl (y_move rfl) ?_
      refine tk_nil ?_
      exact tk_again (i + 1) (by first | exact trivial | omega | (dsimp only; omega)) (by first | omega | (dsimp only; omega)) (by repeat (first | exact trivial | refine ⟨rfl, ?_⟩)) (.cons _ (List.Sublist.refl _))
  · skip
    refine tk_H [cel b7 ((strL k s n).map B) 22, cel b12 ([sv]) 26, cel b6 ((List.replicate 32 0).map B) 22] (congrArg (fun z_ => [cel b7 z_ 22, cel b12 ([sv]) 26, cel b6 ((List.replicate 32 0).map B) 22]) (show (strL k s i).map B = (strL k s n).map B from by rw [show i = n by omega])) ?_
    refine tk_exit ?_
    refine tk_then_exit ?_
    refine tk_then_exit ?_
    refine tk_in_hit ?_
    refine tk_then ?_
    refine tk_seq ?_
    refine tk_region ?_
    refine tk_q rfl rfl rfl (y_loadA 32 rfl (by kernel_rfl) lenP (hcw (.head _))) ?_
    refine tk_act rfl ?_; refine a_storeW (H1 := [_, _]) (vs := (strL k s n).map B) 32 rfl rfl (by kernel_rfl) rfl ⟨lenP, lenP⟩ oneB ?_
    refine tk_nil ?_
    refine tk_then ?_
    refine tk_retc ?_
    exact tk_ret (()) (trivial) (.inl rfl) (rc (vs := (strL k s n).map B) rfl rfl (by simp; kernel_rfl) (hcw (.tail _ (.tail _ (.head _))))) (List.nil_sublist _)
theorem clonen_spec {w : World} : Spec Tryd.prog 84 [.slice none 0 0] w [] (fun _ : Value => True) (fun vo => vo) (fun vo => [ownB vo [] 5]) := by
  refine spec_of (n := 8) Tryd.func84 rfl rfl trivial trivial rfl ?_
  refine tk_seq ?_
  refine tk_region ?_
  refine tk_q rfl rfl rfl (y_assign rfl) ?_
  refine tk_nil ?_
  refine tk_then ?_
  refine tk_seq ?_
  refine tk_seq ?_
  refine tk_region ?_
  refine tk_q rfl rfl rfl (y_move rfl) ?_
  refine tk_q rfl rfl rfl (y_eqSn Tryd.underlying26 rfl rfl) ?_
  refine tk_nil ?_
  refine tk_then ?_
  refine tk_cond1 rfl ?_
  refine tk_seq ?_
  refine tk_region ?_
  refine tk_q rfl rfl rfl (y_assign rfl) ?_
  refine tk_nil ?_
  refine tk_then ?_
  refine tk_retc ?_
  refine tk_then_ret ?_
  refine tk_ownM0 (f := B) 5 ?_
  exact tk_ret (.slice none 0 0) (trivial) (.inl rfl) (r1 rfl rfl) (List.Sublist.refl _)
theorem clones_spec {l : List UInt8} {ad : Addr} {m cp : Nat} {w : World} (hv : Ro (Fs []) w (rdB (.slice (some ad) m cp) l)) (hb : l.length < 70368744177664) :
    Spec Tryd.prog 84 [.slice (some ad) m cp] w [] (fun _ : Value => True) (fun vo => vo) (fun vo => [ownB vo l 5]) := by
  refine spec_of (n := 8) Tryd.func84 rfl rfl trivial trivial rfl ?_
  refine tk_seq ?_
  refine tk_region ?_
  refine tk_q rfl rfl rfl (y_assign rfl) ?_
  refine tk_nil ?_
  refine tk_then ?_
  refine tk_seq ?_
  refine tk_seq ?_
  refine tk_region ?_
  refine tk_q rfl rfl rfl (y_move rfl) ?_
  refine tk_q rfl rfl rfl (y_eqSs Tryd.underlying26 rfl rfl) ?_
  refine tk_nil ?_
  refine tk_then ?_
  refine tk_cond0 rfl ?_
  refine tk_skip ?_
  refine tk_then ?_
  refine tk_seq ?_
  refine tk_region ?_
  refine tk_act rfl ?_; refine a_slit0 EL26 rfl fun v5 => ?_
  refine tk_q rfl rfl rfl (y_move rfl) ?_
  refine tk_act rfl ?_; refine a_appM (H1 := []) (f := B) (l := []) (m := l) rfl rfl EL26 rfl rfl (fun w hw => Ro.rd hv hw) (fun _ => rfl) ⟨lenP, lenP⟩ fun v7 => ?_
  refine tk_own1 (.head _) fun hfv7 => ?_
  refine tk_q rfl rfl rfl (y_assign rfl) ?_
  refine tk_nil ?_
  refine tk_then ?_
  refine tk_retc ?_
  exact tk_ret (v7) (trivial) (.inl rfl) (r1 rfl rfl) (List.Sublist.refl _)
theorem clone_spec {l : List UInt8} {v : Value} {w : World} (hv : Ro (Fs []) w (rdB v l)) (hb : l.length < 70368744177664) :
    Spec Tryd.prog 84 [v] w [] (fun _ : Value => True) (fun vo => vo) (fun vo => [ownB vo l 5]) := by
  rcases hv.1 with ⟨rfl, h0⟩ | ⟨ad, cp, rfl, hc, hr⟩
  · obtain rfl : l = [] := List.map_eq_nil_iff.1 h0
    exact clonen_spec
  · exact clones_spec hv hb
end Go.Proofs.YtfofkjajlfphjaaDoor

/- key: the walks over Write. -/
import Derived.Test.YtfofkjajlfphjaaDoorKeyF
import Derived.Test.YtfofkjajlfphjaaDoorWaxA
set_option linter.unusedSimpArgs false
set_option linter.unusedVariables false
namespace Go.Proofs.YtfofkjajlfphjaaDoor
open Go Go.RowKit
set_option maxRecDepth 100000
attribute [local irreducible] sumL keyedL strL sealF tapeL tapeN
theorem write0_spec {hk mk nk name L : List UInt8} {kind : UInt8} {v : Value} {ps : List Sb} {w : World} (h3 : hk.length = 32 ∧ mk.length = 32 ∧ nk.length = 32) (hv : Ro (Fs []) w (rd v (ps.map Prod.fst))) (hp : ∀ p ∈ ps, Ro (Fs []) w (rdB p.1 p.2)) (hL : ps.flatMap Prod.snd = L)
    (hb : name.length < 4294967296 ∧ L.length < 4294967296 ∧ ps.length < 4294967296) (hg : Ro (Fs []) w glob) :
    Spec Tryd.prog 24 [.agg (hk.map B ++ (mk.map B ++ (nk.map B ++ [Value.pointer none]))).toArray, B kind, Str name, v] w [] (fun _ : Value => True) (fun vo => .tuple #[vo, I (((sealF hk mk kind name (List.replicate 16 0) L).2 : Nat) : Int)]) (fun vo => [ownB vo (sealF hk mk kind name (List.replicate 16 0) L).1 5]) := by
  refine spec_of (n := 22) Tryd.func24 rfl rfl trivial trivial rfl ?_
  subst hL
  obtain ⟨hk32, mk32, nk32⟩ := h3
  refine tk_seq ?_
  refine tk_region ?_
  refine tk_act rfl ?_; refine a_boxL (cs := hk.map B ++ (mk.map B ++ (nk.map B ++ ([Value.pointer none])))) rfl rfl fun b4 => ?_
  refine tk_q rfl rfl rfl (y_assign rfl) ?_
  refine tk_q rfl rfl rfl (y_assign rfl) ?_
  refine tk_nil ?_
  refine tk_then ?_
  refine tk_seq ?_
  refine tk_drawH [cel b4 (hk.map B ++ (mk.map B ++ (nk.map B ++ ([Value.pointer none])))) 52] [] (by kernel_rfl) ?_
  refine tx_q 0 rfl (by kernel_rfl) rfl rfl rfl (fun _ _ _ h => h) (y_fld0 (o := 0) rfl (by kernel_rfl)) ?_
  refine tx_q 1 rfl (by kernel_rfl) rfl rfl rfl (fun _ _ _ h => h) (y_fld0 (o := 0) rfl (by kernel_rfl)) ?_
  refine tx_l 2 rfl (by kernel_rfl) (by kernel_rfl) rfl rfl rfl (fun _ _ _ h => h) (fun _ h => h.sub (List.Sublist.refl _)) (y_loadA (vs := hk.map B ++ (mk.map B)) 64 rfl (by kernel_rfl) lenP (hseg (pre := ([] : List Value)) (post := nk.map B ++ ([Value.pointer none])) (.head _) lenP (by simp))) ?_
  refine tx_q 3 rfl (by kernel_rfl) rfl rfl rfl (fun _ _ _ h => h) (y_move rfl) ?_
  refine tx_q 4 rfl (by kernel_rfl) rfl rfl rfl (fun _ _ _ h => h) (y_move rfl) ?_
  refine tx_q 5 rfl (by kernel_rfl) rfl rfl rfl (fun _ _ _ h => h) (y_fldN (o := 0) 96 rfl (by kernel_rfl)) ?_
  refine tx_l 6 rfl (by kernel_rfl) (by kernel_rfl) rfl rfl rfl (fun _ _ _ h => h) (fun _ h => h.sub (List.Sublist.refl _)) (y_load rfl rfl (hc (o := 96) (.head _) (gA (k := 32) (i := 64) (by rw [List.length_map]; exact hk32) (by omega) (gA (k := 32) (i := 32) (by rw [List.length_map]; exact mk32) (by omega) (gA (k := 32) (i := 0) (by rw [List.length_map]; exact nk32) (by omega) (rfl)))))) ?_
  refine tx_q 8 rfl (by kernel_rfl) rfl rfl rfl (fun _ _ _ h => h) (y_move rfl) ?_
  refine tx_a 7 rfl (by kernel_rfl) rfl ?_; refine a_callv [] _ rfl (by kernel_rfl) rfl (fun w' hw' => nonce0_spec) rfl fun _ _ => ?_
  refine tk_S (fun _ h => h.sub (List.Sublist.refl _)) ?_
  refine tx_a 9 rfl (by kernel_rfl) rfl ?_; refine a_callv [] _ rfl (by kernel_rfl) rfl (fun w' hw' => seal_spec (hk := hk) (mk := mk) (kind := kind) (name := name) (N := List.replicate 16 0) (ps := ps) (L := ps.flatMap Prod.snd) ⟨lenP, lenP, lenP⟩ (Ro.call hv hw') (fun p hp0 => (hp p hp0).call hw') (by simp) ⟨lenP, lenP, lenP⟩ (hg.call hw')) rfl fun v19 _ => ?_
  refine tk_S (fun _ h => h.sub (.cons _ (List.Sublist.refl _))) ?_
  refine tx_q 10 rfl (by kernel_rfl) rfl rfl rfl (fun _ _ _ h => h) (y_extract rfl rfl) ?_
  refine tx_q 11 rfl (by kernel_rfl) rfl rfl rfl (fun _ _ _ h => h) (y_extract rfl rfl) ?_
  refine tx_q 12 rfl (by kernel_rfl) rfl rfl rfl (fun _ _ _ h => h) (y_assign rfl) ?_
  refine tx_q 13 rfl (by kernel_rfl) rfl rfl rfl (fun _ _ _ h => h) (y_assign rfl) ?_
  refine tx_done (by kernel_rfl) ?_
  refine tk_then ?_
  refine tk_retc ?_
  exact tk_ret (v19) (trivial) (.inl rfl) (r2 rfl rfl rfl) (.cons_cons _ (List.nil_sublist _))
theorem write_spec {hk mk nk name L : List UInt8} {kind : UInt8} {v : Value} {ps : List Sb} {tb c p : Nat} {vb vl : Value} {b : List UInt8} {w : World} (h3 : hk.length = 32 ∧ mk.length = 32 ∧ nk.length = 32) (hI0 : p ≤ 32 * c ∧ 32 * c < p + 32) (hp0 : p < 1000000000000) (hlb : b.length < 1099511627776)
    (hv : Ro (Fs [cel tb [vb, .int .u64 (c : Int), vl] 160, ownB vb b 5, ownB vl ((tapeL b c).drop p) 5]) w (rd v (ps.map Prod.fst))) (hp : ∀ q ∈ ps, Ro (Fs [cel tb [vb, .int .u64 (c : Int), vl] 160, ownB vb b 5, ownB vl ((tapeL b c).drop p) 5]) w (rdB q.1 q.2)) (hL : ps.flatMap Prod.snd = L)
    (hb : name.length < 4294967296 ∧ L.length < 4294967296 ∧ ps.length < 4294967296) (hg : Ro (Fs [cel tb [vb, .int .u64 (c : Int), vl] 160, ownB vb b 5, ownB vl ((tapeL b c).drop p) 5]) w glob) (hh : Pre w [cel tb [vb, .int .u64 (c : Int), vl] 160, ownB vb b 5, ownB vl ((tapeL b c).drop p) 5]) :
    Spec Tryd.prog 24 [.agg (hk.map B ++ (mk.map B ++ (nk.map B ++ [Value.pointer (some ⟨tb, 0, none⟩)]))).toArray, B kind, Str name, v] w [cel tb [vb, .int .u64 (c : Int), vl] 160, ownB vb b 5, ownB vl ((tapeL b c).drop p) 5] (fun x : Nat × Value × Value => p + 16 ≤ 32 * x.1 ∧ 32 * x.1 < p + 16 + 32) (fun x => .tuple #[x.2.2, I (((sealF hk mk kind name (tapeN b p 16) L).2 : Nat) : Int)])
      (fun x => [ownB x.2.2 (sealF hk mk kind name (tapeN b p 16) L).1 5, cel tb [vb, .int .u64 (x.1 : Int), x.2.1] 160, ownB vb b 5, ownB x.2.1 ((tapeL b x.1).drop (p + 16)) 5]) := by
  refine spec_of (n := 22) Tryd.func24 rfl rfl hh.1 hh.2 rfl ?_
  subst hL
  obtain ⟨hk32, mk32, nk32⟩ := h3
  refine tk_own1 (.tail _ (.head _)) fun hfb => ?_
  refine tk_own1 (.tail _ (.tail _ (.head _))) fun hfl => ?_
  refine tk_seq ?_
  refine tk_region ?_
  refine tk_act rfl ?_; refine a_boxL (cs := hk.map B ++ (mk.map B ++ (nk.map B ++ ([Value.pointer (some ⟨tb, 0, none⟩)])))) rfl rfl fun b4 => ?_
  refine tk_q rfl rfl rfl (y_assign rfl) ?_
  refine tk_q rfl rfl rfl (y_assign rfl) ?_
  refine tk_nil ?_
  refine tk_then ?_
  refine tk_seq ?_
  refine tk_drawH [cel b4 (hk.map B ++ (mk.map B ++ (nk.map B ++ ([Value.pointer (some ⟨tb, 0, none⟩)])))) 52] [] (by kernel_rfl) ?_
  refine tx_q 0 rfl (by kernel_rfl) rfl rfl rfl (fun _ _ _ h => h) (y_fld0 (o := 0) rfl (by kernel_rfl)) ?_
  refine tx_q 1 rfl (by kernel_rfl) rfl rfl rfl (fun _ _ _ h => h) (y_fld0 (o := 0) rfl (by kernel_rfl)) ?_
  refine tx_l 2 rfl (by kernel_rfl) (by kernel_rfl) rfl rfl rfl (fun _ _ _ h => h) (fun _ h => h.sub (.cons_cons _ (List.nil_sublist _))) (y_loadA (vs := hk.map B ++ (mk.map B)) 64 rfl (by kernel_rfl) lenP (hseg (pre := ([] : List Value)) (post := nk.map B ++ ([Value.pointer (some ⟨tb, 0, none⟩)])) (.head _) lenP (by simp))) ?_
  refine tx_q 3 rfl (by kernel_rfl) rfl rfl rfl (fun _ _ _ h => h) (y_move rfl) ?_
  refine tx_q 4 rfl (by kernel_rfl) rfl rfl rfl (fun _ _ _ h => h) (y_move rfl) ?_
  refine tx_q 5 rfl (by kernel_rfl) rfl rfl rfl (fun _ _ _ h => h) (y_fldN (o := 0) 96 rfl (by kernel_rfl)) ?_
  refine tx_l 6 rfl (by kernel_rfl) (by kernel_rfl) rfl rfl rfl (fun _ _ _ h => h) (fun _ h => h.sub (.cons_cons _ (List.nil_sublist _))) (y_load rfl rfl (hc (o := 96) (.head _) (gA (k := 32) (i := 64) (by rw [List.length_map]; exact hk32) (by omega) (gA (k := 32) (i := 32) (by rw [List.length_map]; exact mk32) (by omega) (gA (k := 32) (i := 0) (by rw [List.length_map]; exact nk32) (by omega) (rfl)))))) ?_
  refine tx_q 8 rfl (by kernel_rfl) rfl rfl rfl (fun _ _ _ h => h) (y_move rfl) ?_
  refine tx_a 7 rfl (by kernel_rfl) rfl ?_
  refine tk_perm _ (.trans (.cons _ (.trans (.cons _ (.trans (.cons _ (List.Perm.refl _)) (.swap _ _ _))) (.swap _ _ _))) (.swap _ _ _)) ?_
  refine tk_perm _ (.trans (.cons _ (.trans (.cons _ (.trans (.cons _ (List.Perm.refl _)) (.swap _ _ _))) (.swap _ _ _))) (.swap _ _ _)) ?_
  refine tk_perm _ (.trans (.cons _ (.trans (.cons _ (.trans (.cons _ (List.Perm.refl _)) (.swap _ _ _))) (.swap _ _ _))) (.swap _ _ _)) ?_
  refine a_callv [] _ rfl (by kernel_rfl) rfl (fun w' hw' => nonce_spec (tb := tb) (c := c) (p := p) (vb := vb) (vl := vl) (b := b) ⟨lenP, lenP⟩ lenP lenP (hg.call hw') (St.pre hw')) rfl fun ⟨c17, vl17⟩ hx17 => ?_
  refine tk_S (fun _ h => h.sub (.cons _ (.cons _ (.cons _ (List.Sublist.refl _))))) ?_
  refine tx_a 9 rfl (by kernel_rfl) rfl ?_; refine a_callv [] _ rfl (by kernel_rfl) rfl (fun w' hw' => seal_spec (hk := hk) (mk := mk) (kind := kind) (name := name) (N := tapeN b p 16) (ps := ps) (L := ps.flatMap Prod.snd) ⟨lenP, lenP, lenP⟩ (Ro.call hv hw') (fun p hp0 => (hp p hp0).call hw') (by simp) ⟨lenP, lenP, lenP⟩ (hg.call hw')) rfl fun v19 _ => ?_
  refine tk_S (fun _ h => h.sub (.cons _ (.cons _ (.cons _ (.cons _ (List.Sublist.refl _)))))) ?_
  refine tx_q 10 rfl (by kernel_rfl) rfl rfl rfl (fun _ _ _ h => h) (y_extract rfl rfl) ?_
  refine tx_q 11 rfl (by kernel_rfl) rfl rfl rfl (fun _ _ _ h => h) (y_extract rfl rfl) ?_
  refine tx_q 12 rfl (by kernel_rfl) rfl rfl rfl (fun _ _ _ h => h) (y_assign rfl) ?_
  refine tx_q 13 rfl (by kernel_rfl) rfl rfl rfl (fun _ _ _ h => h) (y_assign rfl) ?_
  refine tx_done (by kernel_rfl) ?_
  refine tk_then ?_
  refine tk_retc ?_
  exact tk_ret ((c17, vl17, v19)) (hx17) (.inl rfl) (r2 rfl rfl rfl) (.cons_cons _ (.cons_cons _ (.cons_cons _ (.cons_cons _ (List.nil_sublist _)))))
end Go.Proofs.YtfofkjajlfphjaaDoor

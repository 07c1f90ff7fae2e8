/- cell: the walks over Nonce and Wind. -/
import Derived.Test.YtfofkjajlfphjaaDoorKeyC
set_option linter.unusedSimpArgs false
set_option linter.unusedVariables false
namespace Go.Proofs.YtfofkjajlfphjaaDoor
open Go Go.RowKit
set_option maxRecDepth 100000
attribute [local irreducible] sumL tapeL bej be8 tapeN
theorem nonce0_spec {w : World} : Spec Tryd.prog 54 [.pointer none] w [] (fun _ : Unit => True) (fun _ => Ag (List.replicate 16 0)) (fun _ => []) := by
  refine spec_of (n := 10) Tryd.func54 rfl rfl trivial trivial rfl ?_; refine s_r ?_; refine tk_act rfl ?_; refine a_allocL (cs := (List.replicate 16 0).map B) (by kernel_rfl) rfl fun b2 => ?_; refine s_n ?_; refine tk_seq ?_; refine s_r ?_; refine s_q rfl (y_move rfl) ?_; refine s_q rfl (y_pnil rfl rfl rfl) ?_; refine s_n ?_; refine tk_cond1 rfl ?_; refine s_r ?_; refine s_q rfl (y_build (v := .agg ((List.replicate 16 0 : List UInt8).map B).toArray) (vs := []) rfl (fun _ => by kernel_rfl)) ?_
  refine tk_act rfl ?_; refine a_storeW (H1 := []) (vs := (List.replicate 16 0 : List UInt8).map B) 16 rfl rfl (by kernel_rfl) rfl ⟨lenP, lenP⟩ oneB ?_; refine s_n ?_; refine tk_retc ?_; refine tk_then_ret ?_
  exact tk_ret (()) (trivial) (.inl rfl) (rc (vs := (List.replicate 16 0 : List UInt8).map B) rfl rfl (by simp; kernel_rfl) (hcw (.head _))) (List.nil_sublist _)
theorem nonce_spec {tb c p : Nat} {vb vl : Value} {b : List UInt8} {w : World} (hI0 : p ≤ 32 * c ∧ 32 * c < p + 32) (hp : p < 1000000000000) (hlb : b.length < 1099511627776) (hg : Ro (Fs [cel tb [vb, .int .u64 (c : Int), vl] 160, ownB vb b 5, ownB vl ((tapeL b c).drop p) 5]) w glob)
    (hh : Pre w [cel tb [vb, .int .u64 (c : Int), vl] 160, ownB vb b 5, ownB vl ((tapeL b c).drop p) 5]) :
    Spec Tryd.prog 54 [.pointer (some ⟨tb, 0, none⟩)] w [cel tb [vb, .int .u64 (c : Int), vl] 160, ownB vb b 5, ownB vl ((tapeL b c).drop p) 5] (fun x : Nat × Value => p + 16 ≤ 32 * x.1 ∧ 32 * x.1 < p + 16 + 32) (fun _ => Ag (tapeN b p 16))
      (fun x => [cel tb [vb, .int .u64 (x.1 : Int), x.2] 160, ownB vb b 5, ownB x.2 ((tapeL b x.1).drop (p + 16)) 5]) := by
  refine spec_of (n := 10) Tryd.func54 rfl rfl hh.1 hh.2 rfl ?_; refine tk_own1 (.tail _ (.head _)) fun hfb => ?_; refine tk_own1 (.tail _ (.tail _ (.head _))) fun hfl => ?_; refine s_r ?_; refine tk_act rfl ?_; refine a_allocL (cs := (List.replicate 16 0).map B) (by kernel_rfl) rfl fun b2 => ?_; refine s_n ?_; refine tk_seq ?_; refine s_r ?_; refine s_q rfl (y_move rfl) ?_; refine s_q rfl (y_pnil rfl rfl rfl) ?_
  refine s_n ?_; refine tk_cond0 rfl ?_; refine tk_skip ?_; refine tk_then ?_; refine s_r ?_; refine s_q rfl (y_move rfl) ?_; refine tk_act rfl ?_; refine tk_perm _ mv3 ?_; refine tk_perm _ mv3 ?_; refine tk_perm _ mv3 ?_; refine a_callv [] _ rfl (by kernel_rfl) rfl (fun w' hw' => next_spec (tb := tb) (c := c) (p := p) (n := 16) (vb := vb) (vl := vl) (b := b) ⟨lenP, lenP⟩ ⟨lenP, lenP⟩ lenP lenP (hg.call hw') (St.pre hw')) rfl fun ⟨c7, v7, vl7⟩ hx7 => ?_
  refine tk_own1 (.tail _ (.tail _ (.tail _ (.head _)))) fun hf7 => ?_; refine s_q rfl (y_s2aR (l := tapeN b p 16) rfl rfl hf7.choose_spec lenP) ?_; refine s_q rfl (y_loadA 16 rfl (by kernel_rfl) lenP (fun w hw => rd_take (l := tapeN b p 16) (m := 16) ((fun w hw => own_rdS (hw.mem (.tail _ (.tail _ (.tail _ (.head _)))))) w hw) lenP)) ?_; refine tk_re 9 (.agg (((tapeN b p 16).take 16).map B).toArray) (.agg ((tapeN b p 16).map B).toArray) rfl (by rw [List.take_of_length_le (by simp)]) ?_
  refine tk_act rfl ?_; refine a_storeW (H1 := [_, _, _, _]) (vs := (tapeN b p 16).map B) 16 rfl rfl (by kernel_rfl) rfl ⟨lenP, lenP⟩ oneB ?_; refine s_n ?_; refine tk_retc ?_
  exact tk_ret ((c7, vl7)) (hx7) (.inl rfl) (rc (vs := (tapeN b p 16).map B) rfl rfl (by simp; kernel_rfl) (hcw (.tail _ (.tail _ (.tail _ (.tail _ (.head _))))))) (.cons_cons _ (.cons_cons _ (.cons_cons _ (List.nil_sublist _))))
theorem wind_spec {v : Value} {b : List UInt8} {w : World} (hv : Ro (Fs []) w (rdB v b)) (hb : b.length < 1099511627776) :
    Spec Tryd.prog 53 [v] w [] (fun _ : Nat × Value => True) (fun x => .pointer (some ⟨x.1, 0, none⟩))
      (fun x => [cel x.1 [x.2, .int .u64 ((0 : Nat) : Int), .slice none 0 0] 160, ownB x.2 b 5]) := by
  refine spec_of (n := 7) Tryd.func53 rfl rfl trivial trivial rfl ?_; refine s_r ?_; refine s_q rfl (y_assign rfl) ?_; refine s_n ?_; refine s_r ?_; refine s_q rfl (y_move rfl) ?_; refine tk_act rfl ?_; refine a_callv [] _ rfl (by kernel_rfl) rfl (fun w' hw' => clone_spec (l := b) (Ro.call (H0 := []) hv hw') lenP) rfl fun v4 _ => ?_; refine tk_own1 (.head _) fun hf4 => ?_
  have hc4 := hf4.choose_spec.cells
  simp only [Value.cells] at hc4
  refine s_q rfl (y_build (v := .agg ([v4, .int .u64 0, .slice none 0 0]).toArray) (vs := [(0, v4)]) rfl (run_build (zs := [Value.slice none 0 0, .int .u64 0, .slice none 0 0]) (pl := [(0, 1), (1, 1), (2, 1)]) Tryd.underlying160 (fun _ => by kernel_rfl) (fun _ => by kernel_rfl) (by simp [fillL, Value.cells, hc4]))) ?_; refine tk_act rfl ?_; refine a_boxL (cs := [v4, .int .u64 0, .slice none 0 0]) rfl rfl fun b6 => ?_
  refine s_q rfl (y_assign rfl) ?_; refine s_n ?_; refine tk_retc ?_
  exact tk_ret ((b6, v4)) (trivial) (.inl rfl) (r1 rfl rfl) (List.Sublist.refl _)
end Go.Proofs.YtfofkjajlfphjaaDoor

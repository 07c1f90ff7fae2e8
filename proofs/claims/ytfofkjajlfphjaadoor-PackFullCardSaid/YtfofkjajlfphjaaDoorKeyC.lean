/- cell: the walk over Next. -/
import Derived.Test.YtfofkjajlfphjaaDoorKeyB
set_option linter.unusedSimpArgs false
set_option linter.unusedVariables false
namespace Go.Proofs.YtfofkjajlfphjaaDoor
open Go Go.RowKit
set_option maxRecDepth 100000
attribute [local irreducible] sumL tapeL bej be8
theorem next_spec {tb c p n : Nat} {vb vl : Value} {b : List UInt8} {w : World} (hI0 : p ≤ 32 * c ∧ 32 * c < p + 32) (hn : 1 ≤ n ∧ n ≤ 1048576) (hp : p < 1000000000000) (hlb : b.length < 1099511627776) (hg : Ro (Fs [cel tb [vb, .int .u64 (c : Int), vl] 160, ownB vb b 5, ownB vl ((tapeL b c).drop p) 5]) w glob)
    (hh : Pre w [cel tb [vb, .int .u64 (c : Int), vl] 160, ownB vb b 5, ownB vl ((tapeL b c).drop p) 5]) :
    Spec Tryd.prog 93 [.pointer (some ⟨tb, 0, none⟩), I (n : Int)] w [cel tb [vb, .int .u64 (c : Int), vl] 160, ownB vb b 5, ownB vl ((tapeL b c).drop p) 5] (fun x : Nat × Value × Value => p + n ≤ 32 * x.1 ∧ 32 * x.1 < p + n + 32) (fun x => x.2.1)
      (fun x => [cel tb [vb, .int .u64 (x.1 : Int), x.2.2] 160, ownB vb b 5, ownB x.2.2 ((tapeL b x.1).drop (p + n)) 5, ownB x.2.1 (tapeN b p n) 5]) := by
  refine spec_of (n := 40) Tryd.func93 rfl rfl hh.1 hh.2 rfl ?_
  refine tk_own1 (.tail _ (.head _)) fun hfb => ?_
  refine tk_own1 (.tail _ (.tail _ (.head _))) fun hfl => ?_
  refine tk_seq ?_
  refine tk_region ?_
  refine tk_q rfl rfl rfl (y_assign rfl) ?_
  refine tk_nil ?_
  refine tk_then ?_
  refine tk_seq ?_
  refine tk_region ?_
  refine tk_q rfl rfl rfl (y_move rfl) ?_
  refine tk_qe (I ((n : Nat) : Int)) rfl rfl rfl (y_minN (a := n) (b := 1048576) rfl rfl) (by congr 2; omega) ?_
  refine tk_q rfl rfl rfl (y_assign rfl) ?_
  refine tk_nil ?_
  refine tk_then ?_
  refine tk_seq ?_
  refine tk_seq ?_
  refine tk_region ?_
  refine tk_q rfl rfl rfl (y_move rfl) ?_
  refine tk_q rfl rfl rfl (y_pnil rfl rfl rfl) ?_
  refine tk_q rfl rfl rfl (y_move rfl) ?_
  refine tk_gq rfl rfl rfl (y_move rfl) ?_
  refine tk_gqe (.bool false) rfl rfl rfl (y_lss rfl rfl) (bool_f (by omega)) ?_
  refine tk_q rfl rfl rfl (y_pick0 rfl rfl) ?_
  refine tk_nil ?_
  refine tk_then ?_
  refine tk_cond0 rfl ?_
  refine tk_skip ?_
  refine tk_then ?_
  refine tk_seq ?_
  refine tk_block ?_
  refine tk_loop (X := Nat × Value) (fun (c2, vl2) => p ≤ 32 * c2 ∧ 32 * c2 < p + n + 32) (fun (c2, vl2) => [(0, .pointer (some ⟨tb, 0, none⟩)), (1, I ((n : Nat) : Int)), (4, .slice none 0 0)]) (fun (c2, vl2) => [cel tb ([vb, .int .u64 ((c2 : Nat) : Int), vl2]) 160, own vb b.length (b.map B) 5 1, own vl2 (((tapeL b c2).drop p).length) (((tapeL b c2).drop p).map B) 5 1]) (fun (c2, vl2) => p + n + 32 - 32 * c2) ((c, vl)) (⟨by omega, by omega⟩) (by repeat (first | exact trivial | refine ⟨rfl, ?_⟩)) ((List.Sublist.refl _)) ?_
  rintro ⟨c2, vl2⟩ hI
  try dsimp only at hI ⊢
  have hlen : ((tapeL b c2).drop p).length = 32 * c2 - p := by simp
  refine tk_own1 (.tail _ (.tail _ (.head _))) fun hfl2 => ?_
  refine tk_seq ?_
  refine tk_seq ?_
  refine tk_region ?_
  refine tk_q rfl rfl rfl (y_move rfl) ?_
  refine tk_q rfl rfl rfl (y_nilCheck rfl) ?_
  refine tk_q rfl rfl rfl (y_fldN (o := 0) 2 rfl (by kernel_rfl)) ?_
  refine tk_q rfl rfl rfl (y_load rfl rfl (hc (o := 2) (.head _) (rfl))) ?_
  refine tk_q rfl rfl rfl (y_lenRN (n' := ((tapeL b c2).drop p).length) rfl hfl2.choose_spec rfl (by first | rfl | (rw [List.length_map]; omega) | simp)) ?_
  refine tk_q rfl rfl rfl (y_move rfl) ?_
  refine tk_q rfl rfl rfl (y_lss rfl rfl) ?_
  refine tk_nil ?_
  refine tk_then ?_
  refine tk_condP rfl (fun ht20 => ?_) (fun ht20 => ?_)
  · skip
    refine tk_skip ?_
    refine tk_then ?_
    refine tk_block ?_
    refine tk_region ?_
    refine tk_q rfl rfl rfl (y_move rfl) ?_
    refine tk_act rfl ?_; refine a_callv [] _ rfl (by kernel_rfl) rfl (fun w' hw' => more_spec (tb := tb) (c := c2) (vb := vb) (vl := vl2) (b := b) (l := (tapeL b c2).drop p) ⟨lenP, lenP⟩ lenP (hg.call hw') (St.pre hw')) rfl fun v22 _ => ?_
    refine tk_nil ?_
    refine tk_in_normal ?_
    refine tk_H [cel tb ([vb, .int .u64 ((c2 + 1 : Nat) : Int), v22]) 160, own vb b.length (b.map B) 5 1, own v22 (((tapeL b (c2 + 1)).drop p).length) (((tapeL b (c2 + 1)).drop p).map B) 5 1] (congrArg (fun z_ => [cel tb ([vb, .int .u64 ((c2 + 1 : Nat) : Int), v22]) 160, own vb b.length (b.map B) 5 1, z_]) (show own v22 ((((tapeL b c2).drop p) ++ sumL (b ++ be8 c2)).length) ((((tapeL b c2).drop p) ++ sumL (b ++ be8 c2)).map B) 5 1 = own v22 (((tapeL b (c2 + 1)).drop p).length) (((tapeL b (c2 + 1)).drop p).map B) 5 1 from ownM_cast (tape_more (by omega)))) ?_
    exact tk_again ((c2 + 1, v22)) (⟨by dsimp only; omega, by dsimp only; omega⟩) (by dsimp only; omega) (by repeat (first | exact trivial | refine ⟨rfl, ?_⟩)) (List.Sublist.refl _)
  · skip
    refine tk_exit ?_
    refine tk_then_exit ?_
    refine tk_then_exit ?_
    refine tk_in_hit ?_
    refine tk_then ?_
    refine tk_seq ?_
    refine tk_region ?_
    refine tk_q rfl rfl rfl (y_move rfl) ?_
    refine tk_q rfl rfl rfl (y_nilCheck rfl) ?_
    refine tk_q rfl rfl rfl (y_fldN (o := 0) 2 rfl (by kernel_rfl)) ?_
    refine tk_q rfl rfl rfl (y_load rfl rfl (hc (o := 2) (.head _) (rfl))) ?_
    refine tk_q rfl rfl rfl (y_move rfl) ?_
    refine tk_q rfl rfl rfl (y_cutRBh (l := (tapeL b c2).drop p) n rfl rfl hfl2.choose_spec (by kernel_rfl) lenP rfl) ?_
    refine tk_act rfl ?_; refine a_callv [] _ rfl (by kernel_rfl) rfl (fun w' hw' => clone_spec (l := ((tapeL b c2).drop p).take n) (Ro.cutBh (Ro.own (H0 := []) hw' (.tail _ (.tail _ (.head _)))) (hi := n) lenP) lenP) rfl fun v29 _ => ?_
    refine tk_q rfl rfl rfl (y_assign rfl) ?_
    refine tk_nil ?_
    refine tk_then ?_
    refine tk_seq ?_
    refine tk_region ?_
    refine tk_q rfl rfl rfl (y_move rfl) ?_
    refine tk_q rfl rfl rfl (y_move rfl) ?_
    refine tk_q rfl rfl rfl (y_nilCheck rfl) ?_
    refine tk_q rfl rfl rfl (y_fldN (o := 0) 2 rfl (by kernel_rfl)) ?_
    refine tk_q rfl rfl rfl (y_load rfl rfl (hc (o := 2) (.tail _ (.head _)) (rfl))) ?_
    refine tk_q rfl rfl rfl (y_move rfl) ?_
    refine tk_q rfl rfl rfl (y_cutRBl (l := (tapeL b c2).drop p) n rfl rfl hfl2.choose_spec (by kernel_rfl) lenP rfl) ?_
    refine tk_q rfl rfl rfl (y_nilCheck rfl) ?_
    refine tk_q rfl rfl rfl (y_fldN (o := 0) 2 rfl (by kernel_rfl)) ?_
    refine tk_act rfl ?_; refine a_storeE (H1 := [_]) (o := 2) (v := cutR vl2 n (((tapeL b c2).drop p).length)) (cs' := [vb, .int .u64 ((c2 : Nat) : Int), cutR vl2 n (((tapeL b c2).drop p).length)]) rfl rfl (by kernel_rfl) (RdS.one (RdS.cutBl hfl2.choose_spec (lo := n) lenP)) rfl (by first | (simp; done) | (simp; omega)) (rfl) ?_
    refine tk_nil ?_
    refine tk_then ?_
    refine tk_seq ?_
    refine tk_region ?_
    refine tk_q rfl rfl rfl (y_move rfl) ?_
    refine tk_q rfl rfl rfl (y_assign rfl) ?_
    refine tk_nil ?_
    refine tk_then ?_
    refine tk_retc ?_
    refine tk_ownCut (H1 := [_, _, _]) n rfl (by simp; omega) ?_
    refine tk_H [own v29 ((tapeN b p n).length) ((tapeN b p n).map B) 5 1, cel tb ([vb, .int .u64 ((c2 : Nat) : Int), cutR vl2 n (((tapeL b c2).drop p).length)]) 160, own vb b.length (b.map B) 5 1, own (cutR vl2 n (((tapeL b c2).drop p).length)) ((((tapeL b c2).drop p).drop n).length) ((((tapeL b c2).drop p).drop n).map B) 5 1] (congrArg (fun z_ => [z_, cel tb ([vb, .int .u64 ((c2 : Nat) : Int), cutR vl2 n (((tapeL b c2).drop p).length)]) 160, own vb b.length (b.map B) 5 1, own (cutR vl2 n (((tapeL b c2).drop p).length)) ((((tapeL b c2).drop p).drop n).length) ((((tapeL b c2).drop p).drop n).map B) 5 1]) (show own v29 ((((tapeL b c2).drop p).take n).length) ((((tapeL b c2).drop p).take n).map B) 5 1 = own v29 ((tapeN b p n).length) ((tapeN b p n).map B) 5 1 from ownM_cast (tapeN_eq (by omega)))) ?_
    refine tk_H [own v29 ((tapeN b p n).length) ((tapeN b p n).map B) 5 1, cel tb ([vb, .int .u64 ((c2 : Nat) : Int), cutR vl2 n (((tapeL b c2).drop p).length)]) 160, own vb b.length (b.map B) 5 1, own ((cutR vl2 n ((tapeL b c2).drop p).length)) (((tapeL b c2).drop (p + n)).length) (((tapeL b c2).drop (p + n)).map B) 5 1] (congrArg (fun z_ => [own v29 ((tapeN b p n).length) ((tapeN b p n).map B) 5 1, cel tb ([vb, .int .u64 ((c2 : Nat) : Int), cutR vl2 n (((tapeL b c2).drop p).length)]) 160, own vb b.length (b.map B) 5 1, z_]) (show own (cutR vl2 n (((tapeL b c2).drop p).length)) ((((tapeL b c2).drop p).drop n).length) ((((tapeL b c2).drop p).drop n).map B) 5 1 = own ((cutR vl2 n ((tapeL b c2).drop p).length)) (((tapeL b c2).drop (p + n)).length) (((tapeL b c2).drop (p + n)).map B) 5 1 from ownM_cast (List.drop_drop ..))) ?_
    refine tk_perm _ (.trans (.cons _ (.trans (.cons _ (.trans (.cons _ (List.Perm.refl _)) (.swap _ _ _))) (.swap _ _ _))) (.swap _ _ _)) ?_
    refine tk_perm _ (.trans (.cons _ (.trans (.cons _ (.trans (.cons _ (List.Perm.refl _)) (.swap _ _ _))) (.swap _ _ _))) (.swap _ _ _)) ?_
    refine tk_perm _ (.trans (.cons _ (.trans (.cons _ (.trans (.cons _ (List.Perm.refl _)) (.swap _ _ _))) (.swap _ _ _))) (.swap _ _ _)) ?_
    exact tk_ret ((c2, v29, cutR vl2 n ((tapeL b c2).drop p).length)) (⟨by omega, by omega⟩) (.inl rfl) (r1 rfl rfl) (List.Sublist.refl _)
end Go.Proofs.YtfofkjajlfphjaaDoor

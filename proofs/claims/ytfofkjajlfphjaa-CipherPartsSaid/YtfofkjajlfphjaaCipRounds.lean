/- cipher: the walk over the law CipherRounds. -/
import Derived.Test.YtfofkjajlfphjaaCipF
import Derived.Test.YtfofkjajlfphjaaCipBlocks
namespace Go.Proofs.Ytfofkjajlfphjaa
open Go Go.RowKit
attribute [local irreducible] turn plus keyW hideL
theorem cntM (n : Int) (q : Nat) (hq : 0 < q) : ∃ m : Nat, m < q ∧ (IntKind.u64.wrap n).tmod (q : Int) = (m : Int) := by
  have h : 0 ≤ IntKind.u64.wrap n := (bounds_u64 (wf_wrap .u64 n)).1
  have h1 := Int.emod_nonneg (IntKind.u64.wrap n) (show (q : Int) ≠ 0 by omega)
  have h2 := Int.emod_lt_of_pos (IntKind.u64.wrap n) (show (0 : Int) < q by omega)
  refine ⟨((IntKind.u64.wrap n).tmod q).toNat, ?_, ?_⟩
  · rw [Int.tmod_eq_emod_of_nonneg h]; omega
  · rw [Int.tmod_eq_emod_of_nonneg h]; omega
theorem pk_49 {Kb N : List UInt8} {a v : Value} (hK : Kb.length = 32) (hN : N.length = 16) : (Kb.map B ++ (N.map B ++ [a, v]))[49]? = some v := by
  rw [List.getElem?_append_right (by simp [hK]), List.getElem?_append_right (by simp [hK, hN])]; simp [hK, hN]
theorem pk_48 {Kb N : List UInt8} {a v : Value} (hK : Kb.length = 32) (hN : N.length = 16) : (Kb.map B ++ (N.map B ++ [a, v]))[48]? = some a := by
  rw [List.getElem?_append_right (by simp [hK]), List.getElem?_append_right (by simp [hK, hN])]; simp [hK, hN]
theorem pour_rd {w : World} {v : Value} {bs : List UInt8} (hR : RdB w v bs) : RdB w (cutR v 0 (min bs.length 150)) (bs.take 150) := by
  have h := hR.cut (lo := 0) (hi := min bs.length 150) (by simp; omega)
  have e : ((bs.map B).drop 0).take (min bs.length 150 - 0) = (bs.take 150).map B := by
    rw [List.drop_zero, Nat.sub_zero, ← List.map_take]; congr 1
    rw [← List.take_take, List.take_of_length_le (by simp; omega)]
  rw [e] at h; exact h
theorem cp16 {N : List UInt8} {m : Nat} (hN : N.length = 16) : ((List.replicate 16 0).map B).take 0 ++ (plus N m).map B ++ ((List.replicate 16 0).map B).drop (0 + (plus N m).length) = (plus N m).map B := by
  rw [List.drop_eq_nil_of_le (by simp [hN])]; simp
theorem hideb {K N : List UInt8} {m : Nat} {l : List UInt8} (hN : N.length = 16) : hideL K N (16 * m) l = hideL K (plus N m) 0 l := hideL_plus hN m l
theorem pourR_spec (cs : List Value) (vb : Value) (bs : List UInt8) (w0 w : World) (h49 : cs[49]? = some vb) (hR : RdB w0 vb bs) :
    Spec Try.prog 18 [.agg cs.toArray] w [] (fun _ : Unit => True) (fun _ => cutR vb 0 (min bs.length 150)) (fun _ => []) := by
  refine spec_of (n := 10) Try.func18 rfl rfl trivial trivial rfl ?_
  refine tk_seq ?_
  refine tk_region ?_
  refine tk_act rfl ?_; refine a_boxL rfl rfl fun b1 => ?_
  refine tk_q rfl rfl rfl (y_assign rfl) ?_
  refine tk_nil ?_
  refine tk_then ?_
  refine tk_seq ?_
  refine tk_region ?_
  refine tk_q rfl rfl rfl (y_fldN 49 rfl (by kernel_rfl)) ?_
  refine tk_q rfl rfl rfl (y_load rfl rfl (hc (.head _) h49)) ?_
  refine tk_q rfl rfl rfl (y_fldN 49 rfl (by kernel_rfl)) ?_
  refine tk_q rfl rfl rfl (y_load rfl rfl (hc (.head _) h49)) ?_
  refine tk_q rfl rfl rfl (y_lenR rfl hR rfl) ?_
  refine tk_qe (I ((min bs.length 150 : Nat) : Int)) rfl rfl rfl (y_minI rfl rfl) (by simp only [I, List.length_map]; congr 1; omega) ?_
  refine tk_q rfl rfl rfl (y_cutRh (min bs.length 150) rfl rfl hR (by kernel_rfl) (by simp <;> omega)) ?_
  refine tk_q rfl rfl rfl (y_assign rfl) ?_
  refine tk_nil ?_
  refine tk_then ?_
  refine tk_retc ?_
  exact tk_ret () trivial (.inl rfl) (r1 rfl rfl) (List.nil_sublist _)
theorem hide1_spec (fb kb a : Nat) (K N : List UInt8) (sb : Nat) (pv : Value) (l : List UInt8) (w : World) (hN : N.length = 16) (hfl : (cel fb (flowCs kb N a) 39).holds w) (hkb : kb ≠ fb)
    (hk : ∀ j, j < 240 → w.cell? ⟨kb, j, none⟩ = some (B (K.getD j 0))) (hs : w.cell? ⟨sb, 0, none⟩ = some pv) (hne : sb ≠ fb) (hp : RdB w pv l) (hpn : l = [] ∨ (adOf pv).block ≠ fb) (ha : a < 2 ^ 61) (hb : l.length < 2 ^ 46) :
    Spec Try.prog 16 [.pointer (some ⟨fb, 0, none⟩), .slice (some ⟨sb, 0, none⟩) 1 1] w [cel fb (flowCs kb N a) 39] (fun _ : Value => True) (fun vo => vo)
      (fun vo => [ownB vo (hideL K N a l) 5, cel fb (flowCs kb N ((a + l.length : Nat) : Int)) 39]) := by
  have h := hide_spec fb kb a K N (.slice (some ⟨sb, 0, none⟩) 1 1) [(pv, l)] w hN hfl hkb hk (.inr ⟨⟨sb, 0, none⟩, 1, rfl, Nat.le_refl _, fun j u hj => by
    cases j with
    | zero => simp at hj; subst hj; simpa [Addr.add] using hs
    | succ j => simp at hj⟩) (.inr hne) (fun p hp' => by obtain rfl := List.mem_singleton.1 hp'; exact ⟨hp, hpn⟩) ha (by simpa using hb) (by simp)
  simpa using h
set_option maxHeartbeats 1000000 in
theorem rounds_spec (Kb N : List UInt8) (a : Value) (vb : Value) (bs : List UInt8) (steps : Int) (w : World) (hK : Kb.length = 32) (hN : N.length = 16) (hR : RdB w vb bs) :
    Spec Try.prog 5 [.agg (Kb.map B ++ (N.map B ++ [a, vb])).toArray, I steps] w [] (fun _ : Unit => True) (fun _ => .bool true) (fun _ => []) := by
  refine spec_of (n := 76) Try.func5 rfl rfl trivial trivial rfl ?_
  refine tk_seq ?_
  refine tk_region ?_
  refine tk_act rfl ?_; refine a_boxL rfl rfl fun b2 => ?_
  refine tk_q rfl rfl rfl (y_assign rfl) ?_
  refine tk_nil ?_
  refine tk_then ?_
  refine tk_seq ?_
  refine tk_region ?_
  refine tk_q rfl rfl rfl (y_fld0 rfl (by kernel_rfl)) ?_
  refine tk_q rfl rfl rfl (y_cutA (m := 32) (sz := 1) rfl (by kernel_rfl)) ?_
  refine tk_act rfl ?_; refine a_callv [] _ rfl (by kernel_rfl) rfl (fun w' hw' => makeR_spec _ Kb w' hK (cel_rd (hw'.mem (.head _)) (pk_key hK) (by rw [List.length_map, hK]) (by omega))) rfl fun kb _ => ?_
  refine tk_q rfl rfl rfl (y_move rfl) ?_
  refine tk_q rfl rfl rfl (y_extract rfl rfl) ?_
  refine tk_q rfl rfl rfl (y_extract rfl rfl) ?_
  refine tk_q rfl rfl rfl (y_assign rfl) ?_
  refine tk_q rfl rfl rfl (y_assign rfl) ?_
  refine tk_nil ?_
  refine tk_then ?_
  refine tk_seq ?_
  refine tk_seq ?_
  refine tk_region ?_
  refine tk_act rfl ?_; refine a_callv [] _ rfl (by kernel_rfl) rfl (fun w' hw' => hides_spec w') rfl fun _ _ => ?_
  refine tk_q rfl rfl rfl (y_not rfl) ?_
  refine tk_q rfl rfl rfl (y_move rfl) ?_
  refine tk_gq rfl rfl rfl (y_move rfl) ?_
  refine tk_gqe (.bool false) rfl rfl rfl (y_neq rfl rfl) (bool_f (by omega)) ?_
  refine tk_q rfl rfl rfl (y_pick0 rfl rfl) ?_
  refine tk_nil ?_
  refine tk_then ?_
  refine tk_cond0 rfl ?_
  refine tk_skip ?_
  refine tk_then ?_
  refine tk_seq ?_
  refine tk_region ?_
  obtain ⟨m, hm5, hm⟩ := cntM steps 1073741824 (by decide)
  have hP : RdB w (cutR vb 0 (min bs.length 150)) (bs.take 150) := pour_rd hR
  refine tk_q rfl rfl rfl (y_move rfl) ?_
  refine tk_q rfl rfl rfl (y_conv rfl rfl rfl) ?_
  refine tk_qe (.int .u64 (m : Int)) rfl rfl rfl (y_rem rfl rfl (by decide)) (by rw [show (1073741824 : Int) = ((1073741824 : Nat) : Int) from rfl, hm]) ?_
  refine tk_qe (I (m : Int)) rfl rfl rfl (y_conv rfl rfl rfl) (by simp only [I]; rw [wrap_in (by omega) (by omega)]) ?_
  refine tk_q rfl rfl rfl (y_assign rfl) ?_
  refine tk_nil ?_
  refine tk_then ?_
  refine tk_seq ?_
  refine tk_region ?_
  refine tk_q rfl rfl rfl (y_loadA 50 rfl (by kernel_rfl) (by simp [hK, hN]) (hcw (.tail _ (.head _)))) ?_
  refine tk_act rfl ?_; refine a_callv [] _ rfl (by kernel_rfl) rfl (fun w' hw' => pourR_spec _ vb bs w w' (pk_49 hK hN) hR) rfl fun _ _ => ?_
  refine tk_q rfl rfl rfl (y_assign rfl) ?_
  refine tk_nil ?_
  refine tk_then ?_
  refine tk_seq ?_
  refine tk_region ?_
  refine tk_q rfl rfl rfl (y_move rfl) ?_
  refine tk_q rfl rfl rfl (y_fldN 32 rfl (by kernel_rfl)) ?_
  refine tk_q rfl rfl rfl (y_loadA 16 rfl (by kernel_rfl) (by simp [hK, hN]) (hcs (vs := N.map B) (.tail _ (.head _)) (pk_num hK hN))) ?_
  refine tk_act rfl ?_; refine a_callv [] _ rfl (by kernel_rfl) rfl (fun w' hw' => begin_spec kb N w' hN) rfl fun fb _ => ?_
  refine tk_q rfl rfl rfl (y_move rfl) ?_
  refine tk_q rfl rfl rfl (y_extract rfl rfl) ?_
  refine tk_q rfl rfl rfl (y_extract rfl rfl) ?_
  refine tk_q rfl rfl rfl (y_assign rfl) ?_
  refine tk_q rfl rfl rfl (y_assign rfl) ?_
  refine tk_nil ?_
  refine tk_then ?_
  refine tk_seq ?_
  refine tk_region ?_
  refine tk_act rfl ?_; refine a_allocL (cs := (List.replicate 16 0).map B) (by kernel_rfl) rfl fun b9 => ?_
  refine tk_nil ?_
  refine tk_then ?_
  refine tk_seq ?_
  refine tk_draw (fun w => (cel b2 (Kb.map B ++ (N.map B ++ [a, vb])) 42).holds w) [] (by kernel_rfl) ?_
  refine tx_q 0 rfl (by kernel_rfl) rfl rfl rfl (fun _ _ _ h => h) (y_cutA (m := 16) (sz := 1) rfl (by kernel_rfl)) ?_
  refine tx_q 1 rfl (by kernel_rfl) rfl rfl rfl (fun _ _ _ h => h) (y_fldN 32 rfl (by kernel_rfl)) ?_
  refine tx_q 2 rfl (by kernel_rfl) rfl rfl rfl (fun _ _ _ h => h) (y_cutA (m := 16) (sz := 1) rfl (by kernel_rfl)) ?_
  refine tx_l 3 rfl (by kernel_rfl) (by kernel_rfl) rfl rfl rfl (fun _ _ _ h => h) (fun _ hw => hw.mem (.tail _ (.tail _ (.tail _ (.head _))))) (y_str (l := N) rfl rfl rfl rfl (fun w hw => cel_rd (o := 32) hw (pk_num hK hN) (by simp [hN]) (by omega))) ?_
  refine tx_q 4 rfl (by kernel_rfl) rfl rfl rfl (fun _ _ _ h => h) (y_move rfl) ?_
  refine tx_a 5 rfl (by kernel_rfl) rfl ?_; refine a_callv [] _ rfl (by kernel_rfl) rfl (fun w' hw' => plus_spec N m w' hN (by omega)) rfl fun _ _ => ?_
  refine tk_S (fun _ hw => hw.mem (.tail _ (.tail _ (.tail _ (.head _))))) ?_
  refine tx_a 6 rfl (by kernel_rfl) rfl ?_; refine a_copyT (H1 := []) rfl rfl rfl (by kernel_rfl) rfl rfl ⟨by simp [hN], by simp [hN]⟩ ?_
  rw [cp16 hN]
  refine tk_S (fun _ hw => hw.mem (.tail _ (.tail _ (.tail _ (.head _))))) ?_
  refine tx_done (by kernel_rfl) ?_
  refine tk_then ?_
  refine tk_seq ?_
  refine tk_region ?_
  refine tk_q rfl rfl rfl (y_move rfl) ?_
  refine tk_q rfl rfl rfl (y_loadA 16 rfl (by kernel_rfl) (by simp [hK, hN]) (hcw (.head _))) ?_
  refine tk_act rfl ?_; refine a_callv [] _ rfl (by kernel_rfl) rfl (fun w' hw' => begin_spec kb (plus N m) w' (by simp [hN])) rfl fun gb _ => ?_
  refine tk_q rfl rfl rfl (y_move rfl) ?_
  refine tk_q rfl rfl rfl (y_extract rfl rfl) ?_
  refine tk_q rfl rfl rfl (y_extract rfl rfl) ?_
  refine tk_q rfl rfl rfl (y_assign rfl) ?_
  refine tk_q rfl rfl rfl (y_assign rfl) ?_
  refine tk_nil ?_
  refine tk_then ?_
  refine tk_seq ?_
  refine tk_draw (fun _ => True) [] (by kernel_rfl) ?_
  refine tx_q 0 rfl (by kernel_rfl) rfl rfl rfl (fun _ _ _ h => h) (y_move rfl) ?_
  refine tx_q 1 rfl (by kernel_rfl) rfl rfl rfl (fun _ _ _ h => h) ((y_eql rfl rfl).cast (v := _) (u := .bool true) (bool_t (by omega))) ?_
  refine tx_q 2 rfl (by kernel_rfl) rfl rfl rfl (fun _ _ _ h => h) (y_move rfl) ?_
  refine tx_q 3 rfl (by kernel_rfl) rfl rfl rfl (fun _ _ _ h => h) (y_move rfl) ?_
  refine tx_q 4 rfl (by kernel_rfl) rfl rfl rfl (fun _ _ _ h => h) ((y_eql rfl rfl).cast (v := _) (u := .bool true) (bool_t (by omega))) ?_
  refine tx_q 5 rfl (by kernel_rfl) rfl rfl rfl (fun _ _ _ h => h) (y_pick1 rfl rfl) ?_
  refine tx_q 6 rfl (by kernel_rfl) rfl rfl rfl (fun _ _ _ h => h) (y_move rfl) ?_
  refine tx_q 7 rfl (by kernel_rfl) rfl rfl rfl (fun _ _ _ h => h) (y_move rfl) ?_
  refine tx_q 8 rfl (by kernel_rfl) rfl rfl rfl (fun _ _ _ h => h) (y_move rfl) ?_
  refine tx_q 9 rfl (by kernel_rfl) rfl rfl rfl (fun _ _ _ h => h) ((y_mulI rfl rfl (by omega)).cast (v := _) (u := I ((16 * m : Nat) : Int)) (by congr 1)) ?_
  refine tx_a 10 rfl (by kernel_rfl) rfl ?_; refine a_callv [_, _] _ rfl (by kernel_rfl) rfl (fun w' hw' => seek_spec fb kb (16 * m) N 0 w' hN (hw'.mem (.tail _ (.tail _ (.head _)))) (by omega)) rfl fun _ _ => ?_
  refine tk_S (fun _ _ => trivial) ?_
  refine tx_q 11 rfl (by kernel_rfl) rfl rfl rfl (fun _ _ _ h => h) ((y_eql rfl rfl).cast (v := _) (u := .bool true) (bool_t (by omega))) ?_
  refine tx_q 12 rfl (by kernel_rfl) rfl rfl rfl (fun _ _ _ h => h) (y_pick1 rfl rfl) ?_
  refine tx_q 13 rfl (by kernel_rfl) rfl rfl rfl (fun _ _ _ h => h) (y_move rfl) ?_
  refine tx_q 14 rfl (by kernel_rfl) rfl rfl rfl (fun _ _ _ h => h) (y_move rfl) ?_
  refine tx_q 15 rfl (by kernel_rfl) rfl rfl rfl (fun _ _ _ h => h) (y_move rfl) ?_
  refine tx_q 19 rfl (by kernel_rfl) rfl rfl rfl (fun _ _ _ h => h) (y_move rfl) ?_
  refine tx_q 20 rfl (by kernel_rfl) rfl rfl rfl (fun _ _ _ h => h) (y_move rfl) ?_
  refine tx_all (is := [16, 21]) (by kernel_rfl) rfl ⟨⟨_, rfl, rfl, ?_⟩, ⟨_, rfl, rfl, ?_⟩, trivial⟩
  · skip
    refine a_slit1 rfl (hP.one) el74 rfl fun b66 => ?_
    refine tk_S (fun _ _ => trivial) ?_
    refine tx_all (is := [17, 21]) (by kernel_rfl) rfl ⟨⟨_, rfl, rfl, ?_⟩, ⟨_, rfl, rfl, ?_⟩, trivial⟩
    · skip
      refine a_callv [_, _, _] _ rfl (by kernel_rfl) rfl (fun w' hw' => hide1_spec fb kb (16 * m) (keyW Kb) N b66 (cutR vb 0 (min bs.length 150)) (bs.take 150) w' (by simp [hN]) (hw'.mem (.tail _ (.tail _ (.tail _ (.head _))))) (hw'.two 3 4 (by omega) rfl rfl).symm (fun j hj => cel_cell (hw'.mem (.tail _ (.tail _ (.tail _ (.tail _ (.head _)))))) (getB (by rw [keyW_len hK]; exact hj))) (cel_cell (hw'.mem (.head _)) rfl) (hw'.two 0 3 (by omega) rfl rfl) (hP.fo hw'.fr (.inr (fun h => h))) ((hP.ne hw' (fun h => h) (.tail _ (.tail _ (.tail _ (.head _))))).imp List.map_eq_nil_iff.1 id) (by omega) (by simp; omega)) rfl fun vo1 _ => ?_
      refine tk_S (fun _ _ => trivial) ?_
      refine tx_and (fun w => RdB w vo1 (hideL (keyW Kb) N (16 * m) (bs.take 150))) (fun _ hw => ⟨trivial, own_rd (hw.mem (.tail _ (.tail _ (.tail _ (.head _)))))⟩) ?_
      refine tx_l 18 rfl (by kernel_rfl) (by kernel_rfl) rfl rfl rfl (fun _ _ _ h => h) (fun _ hw => ⟨trivial, own_rd (hw.mem (.tail _ (.tail _ (.tail _ (.head _)))))⟩) (y_str rfl rfl rfl rfl (fun w hw => hw.2)) ?_
      refine tx_a 21 rfl (by kernel_rfl) rfl ?_; refine a_slit1 rfl (hP.one) el74 rfl fun b71 => ?_
      refine tk_S (fun _ hw => ⟨trivial, own_rd (hw.mem (.tail _ (.tail _ (.tail _ (.tail _ (.head _))))))⟩) ?_
      refine tx_a 22 rfl (by kernel_rfl) rfl ?_; refine a_callv [_, _] _ rfl (by kernel_rfl) rfl (fun w' hw' => hide1_spec gb kb 0 (keyW Kb) (plus N m) b71 (cutR vb 0 (min bs.length 150)) (bs.take 150) w' (by simp [hN]) (hw'.mem (.tail _ (.tail _ (.head _)))) (hw'.two 2 6 (by omega) rfl rfl).symm (fun j hj => cel_cell (hw'.mem (.tail _ (.tail _ (.tail _ (.tail _ (.tail _ (.tail _ (.head _)))))))) (getB (by rw [keyW_len hK]; exact hj))) (cel_cell (hw'.mem (.head _)) rfl) (hw'.two 0 2 (by omega) rfl rfl) (hP.fo hw'.fr (.inr (fun h => h))) ((hP.ne hw' (fun h => h) (.tail _ (.tail _ (.head _)))).imp List.map_eq_nil_iff.1 id) (by omega) (by simp; omega)) rfl fun vo2 _ => ?_
      refine tk_S (fun _ hw => ⟨trivial, own_rd (hw.mem (.tail _ (.tail _ (.tail _ (.tail _ (.tail _ (.head _)))))))⟩) ?_
      refine tx_and (fun w => RdB w vo2 (hideL (keyW Kb) (plus N m) 0 (bs.take 150))) (fun _ hw => ⟨⟨trivial, own_rd (hw.mem (.tail _ (.tail _ (.tail _ (.tail _ (.tail _ (.head _)))))))⟩, own_rd (hw.mem (.tail _ (.tail _ (.head _))))⟩) ?_
      refine tx_l 23 rfl (by kernel_rfl) (by kernel_rfl) rfl rfl rfl (fun _ _ _ h => h) (fun _ hw => ⟨⟨trivial, own_rd (hw.mem (.tail _ (.tail _ (.tail _ (.tail _ (.tail _ (.head _)))))))⟩, own_rd (hw.mem (.tail _ (.tail _ (.head _))))⟩) (y_str rfl rfl rfl rfl (fun w hw => hw.2)) ?_
      refine tx_q 24 rfl (by kernel_rfl) rfl rfl rfl (fun _ _ _ h => h) ((y_strEq rfl rfl).cast (v := _) (u := .bool true) (bool_t (hideb hN))) ?_
      refine tx_q 25 rfl (by kernel_rfl) rfl rfl rfl (fun _ _ _ h => h) (y_pick1 rfl rfl) ?_
      refine tx_q 26 rfl (by kernel_rfl) rfl rfl rfl (fun _ _ _ h => h) (y_assign rfl) ?_
      refine tx_done (by kernel_rfl) ?_
      refine tk_then ?_
      refine tk_retc ?_
      exact tk_ret () trivial (.inl rfl) (r1 rfl rfl) (List.nil_sublist _)
    · skip
      refine a_slit1 rfl (hP.one) el74 rfl fun b71 => ?_
      refine tk_S (fun _ _ => trivial) ?_
      refine tx_a 17 rfl (by kernel_rfl) rfl ?_; refine a_callv [_, _, _, _] _ rfl (by kernel_rfl) rfl (fun w' hw' => hide1_spec fb kb (16 * m) (keyW Kb) N b66 (cutR vb 0 (min bs.length 150)) (bs.take 150) w' (by simp [hN]) (hw'.mem (.tail _ (.tail _ (.tail _ (.tail _ (.head _)))))) (hw'.two 4 5 (by omega) rfl rfl).symm (fun j hj => cel_cell (hw'.mem (.tail _ (.tail _ (.tail _ (.tail _ (.tail _ (.head _))))))) (getB (by rw [keyW_len hK]; exact hj))) (cel_cell (hw'.mem (.tail _ (.head _))) rfl) (hw'.two 1 4 (by omega) rfl rfl) (hP.fo hw'.fr (.inr (fun h => h))) ((hP.ne hw' (fun h => h) (.tail _ (.tail _ (.tail _ (.tail _ (.head _)))))).imp List.map_eq_nil_iff.1 id) (by omega) (by simp; omega)) rfl fun vo1 _ => ?_
      refine tk_S (fun _ _ => trivial) ?_
      refine tx_and (fun w => RdB w vo1 (hideL (keyW Kb) N (16 * m) (bs.take 150))) (fun _ hw => ⟨trivial, own_rd (hw.mem (.tail _ (.tail _ (.tail _ (.tail _ (.head _))))))⟩) ?_
      refine tx_l 18 rfl (by kernel_rfl) (by kernel_rfl) rfl rfl rfl (fun _ _ _ h => h) (fun _ hw => ⟨trivial, own_rd (hw.mem (.tail _ (.tail _ (.tail _ (.tail _ (.head _))))))⟩) (y_str rfl rfl rfl rfl (fun w hw => hw.2)) ?_
      refine tx_a 22 rfl (by kernel_rfl) rfl ?_; refine a_callv [_, _] _ rfl (by kernel_rfl) rfl (fun w' hw' => hide1_spec gb kb 0 (keyW Kb) (plus N m) b71 (cutR vb 0 (min bs.length 150)) (bs.take 150) w' (by simp [hN]) (hw'.mem (.tail _ (.tail _ (.head _)))) (hw'.two 2 6 (by omega) rfl rfl).symm (fun j hj => cel_cell (hw'.mem (.tail _ (.tail _ (.tail _ (.tail _ (.tail _ (.tail _ (.head _)))))))) (getB (by rw [keyW_len hK]; exact hj))) (cel_cell (hw'.mem (.head _)) rfl) (hw'.two 0 2 (by omega) rfl rfl) (hP.fo hw'.fr (.inr (fun h => h))) ((hP.ne hw' (fun h => h) (.tail _ (.tail _ (.head _)))).imp List.map_eq_nil_iff.1 id) (by omega) (by simp; omega)) rfl fun vo2 _ => ?_
      refine tk_S (fun _ hw => ⟨trivial, own_rd (hw.mem (.tail _ (.tail _ (.tail _ (.tail _ (.tail _ (.head _)))))))⟩) ?_
      refine tx_and (fun w => RdB w vo2 (hideL (keyW Kb) (plus N m) 0 (bs.take 150))) (fun _ hw => ⟨⟨trivial, own_rd (hw.mem (.tail _ (.tail _ (.tail _ (.tail _ (.tail _ (.head _)))))))⟩, own_rd (hw.mem (.tail _ (.tail _ (.head _))))⟩) ?_
      refine tx_l 23 rfl (by kernel_rfl) (by kernel_rfl) rfl rfl rfl (fun _ _ _ h => h) (fun _ hw => ⟨⟨trivial, own_rd (hw.mem (.tail _ (.tail _ (.tail _ (.tail _ (.tail _ (.head _)))))))⟩, own_rd (hw.mem (.tail _ (.tail _ (.head _))))⟩) (y_str rfl rfl rfl rfl (fun w hw => hw.2)) ?_
      refine tx_q 24 rfl (by kernel_rfl) rfl rfl rfl (fun _ _ _ h => h) ((y_strEq rfl rfl).cast (v := _) (u := .bool true) (bool_t (hideb hN))) ?_
      refine tx_q 25 rfl (by kernel_rfl) rfl rfl rfl (fun _ _ _ h => h) (y_pick1 rfl rfl) ?_
      refine tx_q 26 rfl (by kernel_rfl) rfl rfl rfl (fun _ _ _ h => h) (y_assign rfl) ?_
      refine tx_done (by kernel_rfl) ?_
      refine tk_then ?_
      refine tk_retc ?_
      exact tk_ret () trivial (.inl rfl) (r1 rfl rfl) (List.nil_sublist _)
  · skip
    refine a_slit1 rfl (hP.one) el74 rfl fun b71 => ?_
    refine tk_S (fun _ _ => trivial) ?_
    refine tx_a 16 rfl (by kernel_rfl) rfl ?_; refine a_slit1 rfl (hP.one) el74 rfl fun b66 => ?_
    refine tk_S (fun _ _ => trivial) ?_
    refine tx_a 17 rfl (by kernel_rfl) rfl ?_; refine a_callv [_, _, _, _] _ rfl (by kernel_rfl) rfl (fun w' hw' => hide1_spec fb kb (16 * m) (keyW Kb) N b66 (cutR vb 0 (min bs.length 150)) (bs.take 150) w' (by simp [hN]) (hw'.mem (.tail _ (.tail _ (.tail _ (.tail _ (.head _)))))) (hw'.two 4 5 (by omega) rfl rfl).symm (fun j hj => cel_cell (hw'.mem (.tail _ (.tail _ (.tail _ (.tail _ (.tail _ (.head _))))))) (getB (by rw [keyW_len hK]; exact hj))) (cel_cell (hw'.mem (.head _)) rfl) (hw'.two 0 4 (by omega) rfl rfl) (hP.fo hw'.fr (.inr (fun h => h))) ((hP.ne hw' (fun h => h) (.tail _ (.tail _ (.tail _ (.tail _ (.head _)))))).imp List.map_eq_nil_iff.1 id) (by omega) (by simp; omega)) rfl fun vo1 _ => ?_
    refine tk_S (fun _ _ => trivial) ?_
    refine tx_and (fun w => RdB w vo1 (hideL (keyW Kb) N (16 * m) (bs.take 150))) (fun _ hw => ⟨trivial, own_rd (hw.mem (.tail _ (.tail _ (.tail _ (.tail _ (.head _))))))⟩) ?_
    refine tx_l 18 rfl (by kernel_rfl) (by kernel_rfl) rfl rfl rfl (fun _ _ _ h => h) (fun _ hw => ⟨trivial, own_rd (hw.mem (.tail _ (.tail _ (.tail _ (.tail _ (.head _))))))⟩) (y_str rfl rfl rfl rfl (fun w hw => hw.2)) ?_
    refine tx_a 22 rfl (by kernel_rfl) rfl ?_; refine a_callv [_, _] _ rfl (by kernel_rfl) rfl (fun w' hw' => hide1_spec gb kb 0 (keyW Kb) (plus N m) b71 (cutR vb 0 (min bs.length 150)) (bs.take 150) w' (by simp [hN]) (hw'.mem (.tail _ (.tail _ (.head _)))) (hw'.two 2 6 (by omega) rfl rfl).symm (fun j hj => cel_cell (hw'.mem (.tail _ (.tail _ (.tail _ (.tail _ (.tail _ (.tail _ (.head _)))))))) (getB (by rw [keyW_len hK]; exact hj))) (cel_cell (hw'.mem (.tail _ (.head _))) rfl) (hw'.two 1 2 (by omega) rfl rfl) (hP.fo hw'.fr (.inr (fun h => h))) ((hP.ne hw' (fun h => h) (.tail _ (.tail _ (.head _)))).imp List.map_eq_nil_iff.1 id) (by omega) (by simp; omega)) rfl fun vo2 _ => ?_
    refine tk_S (fun _ hw => ⟨trivial, own_rd (hw.mem (.tail _ (.tail _ (.tail _ (.tail _ (.tail _ (.head _)))))))⟩) ?_
    refine tx_and (fun w => RdB w vo2 (hideL (keyW Kb) (plus N m) 0 (bs.take 150))) (fun _ hw => ⟨⟨trivial, own_rd (hw.mem (.tail _ (.tail _ (.tail _ (.tail _ (.tail _ (.head _)))))))⟩, own_rd (hw.mem (.tail _ (.tail _ (.head _))))⟩) ?_
    refine tx_l 23 rfl (by kernel_rfl) (by kernel_rfl) rfl rfl rfl (fun _ _ _ h => h) (fun _ hw => ⟨⟨trivial, own_rd (hw.mem (.tail _ (.tail _ (.tail _ (.tail _ (.tail _ (.head _)))))))⟩, own_rd (hw.mem (.tail _ (.tail _ (.head _))))⟩) (y_str rfl rfl rfl rfl (fun w hw => hw.2)) ?_
    refine tx_q 24 rfl (by kernel_rfl) rfl rfl rfl (fun _ _ _ h => h) ((y_strEq rfl rfl).cast (v := _) (u := .bool true) (bool_t (hideb hN))) ?_
    refine tx_q 25 rfl (by kernel_rfl) rfl rfl rfl (fun _ _ _ h => h) (y_pick1 rfl rfl) ?_
    refine tx_q 26 rfl (by kernel_rfl) rfl rfl rfl (fun _ _ _ h => h) (y_assign rfl) ?_
    refine tx_done (by kernel_rfl) ?_
    refine tk_then ?_
    refine tk_retc ?_
    exact tk_ret () trivial (.inl rfl) (r1 rfl rfl) (List.nil_sublist _)
end Go.Proofs.Ytfofkjajlfphjaa

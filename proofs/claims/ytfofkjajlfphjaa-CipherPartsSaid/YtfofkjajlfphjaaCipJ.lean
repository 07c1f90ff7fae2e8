/- cipher: the walk over the law CipherParts. -/
import Derived.Test.YtfofkjajlfphjaaCipRounds
import Derived.Test.YtfofkjajlfphjaaCipApp
import Derived.Test.YtfofkjajlfphjaaEngM
namespace Go.Proofs.Ytfofkjajlfphjaa
open Go Go.RowKit
attribute [local irreducible] turn plus keyW hideL
theorem cut_rd {w : World} {v : Value} {bs : List UInt8} (hR : RdB w v bs) (m : Nat) : RdB w (cutR v 0 (min bs.length m)) (bs.take m) := by
  have h := hR.cut (lo := 0) (hi := min bs.length m) (by simp; omega)
  have e : ((bs.map B).drop 0).take (min bs.length m - 0) = (bs.take m).map B := by
    rw [List.drop_zero, Nat.sub_zero, ← List.map_take]; congr 1
    rw [← List.take_take, List.take_of_length_le (by simp; omega)]
  rw [e] at h; exact h
theorem cut1 {w : World} {v : Value} {l : List UInt8} {k : Nat} (hR : RdB w v l) (hk : k ≤ l.length) : RdB w (cutR v 0 k) (l.take k) := by
  have h := hR.cut (lo := 0) (hi := k) (by simp; omega)
  rw [List.drop_zero, Nat.sub_zero, ← List.map_take] at h; exact h
theorem cut3 {w : World} {v : Value} {l : List UInt8} {k j : Nat} (hR : RdB w v l) (hk : k ≤ j ∧ j ≤ l.length) : RdB w (cutR v k j) ((l.drop k).take (j - k)) := by
  have h := hR.cut (lo := k) (hi := j) (by simp; omega)
  rw [← List.map_drop, ← List.map_take] at h; exact h
theorem cutEnd {w : World} {v : Value} {l : List UInt8} {o m : Nat} (hR : RdB w v (l.drop o)) (hk : m ≤ (l.drop o).length) : RdB w (cutR v m ((l.drop o).map B).length) (l.drop (o + m)) := by
  have h := cut3 hR (k := m) (j := (l.drop o).length) ⟨hk, Nat.le_refl _⟩
  rw [List.drop_drop, List.take_of_length_le (by simp; omega)] at h
  rw [List.length_map]; exact h
theorem own_app0 {v : Value} {l : List UInt8} : own v (0 + (l.map B).length) ([] ++ l.map B) 5 1 = ownB v l 5 := by simp
theorem own_grow {v : Value} {a b c : List UInt8} (h : a ++ b = c) : own v (a.length + (b.map B).length) (a.map B ++ b.map B) 5 1 = ownB v c 5 := by subst h; simp only [ownB, List.length_append, List.map_append, List.length_map]
section
variable {c : Cx} {L : Sl} {H : List Res} {P : Program} {Q : Exit → Act → World → Prop} {K : Act → World → Prop} {d : Nat} {rty : TypeId} {pos : String} {af : Array Edge} {gd : Option (Nat × Bool)} {t t' : TypeId} {x y : Operand} {v u : Value}
theorem a_appB {H1 H2 : List Res} {l m z : List UInt8} (hz : l ++ m = z) (hx : ev L x = some v) (hy : ev L y = some u) (he : elB P t 5 1 1) (hn : Nat.blt d c.n = true)
    (hH : H = H1 ++ ownB v l 5 :: H2) (hr : ∀ w, St c w H → RdB w u m)
    (hb : l.length + m.length ≤ 140737488355328) (h : ∀ v', TK c K ((d, v') :: L) (H1 ++ ownB v' z 5 :: H2)) :
    TK c (fun a w => (⟨some d, .call { callee := .builtin .append, args := #[x, y], argTypes := #[t, t] }, rty, pos, af, gd⟩ : Oper).wp P a w K Q) L H := by
  subst hz
  refine a_appendR hx hy he hn hH hr oneB (by rw [List.length_map]; omega) fun v' => ?_
  have e : own v' (l.length + (m.map B).length) (l.map B ++ m.map B) 5 1 = ownB v' (l ++ m) 5 := by simp only [ownB, List.length_append, List.map_append, List.length_map]
  rw [e]
  exact h v'
end
theorem sep {v u : Value} {l x : List UInt8} {fb : Nat} (h : (adOf u).block = (adOf v).block) (h0 : l.map B = [] ∨ (adOf v).block ≠ fb) (hx : l = [] → x = []) {lo hi : Nat} : x = [] ∨ (adOf (cutR u lo hi)).block ≠ fb := by
  rw [adOf_cut, h]
  exact h0.imp (fun e => hx (List.map_eq_nil_iff.1 e)) id
theorem grow1 {K N l : List UInt8} {o m : Nat} (h : o + m ≤ l.length) : hideL K N 0 (l.take o) ++ hideL K N o ((l.drop o).take (m / 2) ++ ((l.drop o).drop (m / 2)).take (m - m / 2)) = hideL K N 0 (l.take (o + m)) := by
  have e1 : (l.drop o).take (m / 2) ++ ((l.drop o).drop (m / 2)).take (m - m / 2) = (l.drop o).take m := by
    have e0 : m / 2 + (m - m / 2) = m := by omega
    rw [← List.take_add, e0]
  have e2 := hideL_app (K := K) (N := N) (a := 0) (l := l.take o) (m := (l.drop o).take m)
  rw [e1, List.take_add, e2, Nat.zero_add, List.length_take, Nat.min_eq_left (by omega)]
theorem grow2 {K N l : List UInt8} {o : Nat} (h : o ≤ l.length) : hideL K N 0 (l.take o) ++ hideL K N o (l.drop o) = hideL K N 0 l := by
  have e2 := hideL_app (K := K) (N := N) (a := 0) (l := l.take o) (m := l.drop o)
  rw [List.take_append_drop, Nat.zero_add, List.length_take, Nat.min_eq_left h] at e2
  exact e2.symm
theorem drop_len {l : List UInt8} {o m : Nat} (h : o + m ≤ l.length) : ((l.drop o).take (m / 2) ++ ((l.drop o).drop (m / 2)).take (m - m / 2)).length = m := by simp; omega
theorem hide3_spec (fb kb a : Nat) (K N : List UInt8) (sb : Nat) (v1 v3 v2 : Value) (l1 l2 l3 : List UInt8) (w : World) (hN : N.length = 16) (hfl : (cel fb (flowCs kb N a) 39).holds w) (hkb : kb ≠ fb)
    (hk : ∀ j, j < 240 → w.cell? ⟨kb, j, none⟩ = some (B (K.getD j 0))) (hs : (cel sb [v1, v2, v3] 28).holds w) (hne : sb ≠ fb) (h1 : RdB w v1 l1) (h2 : RdB w v2 l2) (h3 : RdB w v3 l3) (n1 : l1 = [] ∨ (adOf v1).block ≠ fb) (n3 : l3 = [] ∨ (adOf v3).block ≠ fb) (e2 : l2 = [])
    (ha : a < 2 ^ 61) (hb : (l1 ++ (l2 ++ l3)).length < 2 ^ 46) :
    Spec Try.prog 16 [.pointer (some ⟨fb, 0, none⟩), .slice (some ⟨sb, 0, none⟩) 3 3] w [cel fb (flowCs kb N a) 39] (fun _ : Value => True) (fun vo => vo)
      (fun vo => [ownB vo (hideL K N a (l1 ++ (l2 ++ l3))) 5, cel fb (flowCs kb N ((a + (l1 ++ (l2 ++ l3)).length : Nat) : Int)) 39]) := by
  have h := hide_spec fb kb a K N (.slice (some ⟨sb, 0, none⟩) 3 3) [(v1, l1), (v2, l2), (v3, l3)] w hN hfl hkb hk (cel_rd (o := 0) (vs := [v1, v2, v3]) hs rfl rfl (Nat.le_refl _)) (.inr hne) (fun p hp => by
    simp only [List.mem_cons, List.not_mem_nil, or_false] at hp
    rcases hp with rfl | rfl | rfl
    · exact ⟨h1, n1⟩
    · exact ⟨h2, .inl e2⟩
    · exact ⟨h3, n3⟩) ha (by simpa using hb) (by simp)
  simpa using h
set_option maxHeartbeats 1500000 in
theorem parts_spec (Kb N : List UInt8) (a : Int) (vb : Value) (bs : List UInt8) (vc : Value) (zs : List Int) (w : World) (hK : Kb.length = 32) (hN : N.length = 16) (hR : RdB w vb bs) (hC : RdS w vc (zs.map I)) :
    Spec Try.prog 8 [.agg (Kb.map B ++ (N.map B ++ [I a, vb])).toArray, vc] w [] (fun _ : Unit => True) (fun _ => .bool true) (fun _ => []) := by
  refine spec_of (n := 163) Try.func8 rfl rfl trivial trivial rfl ?_
  obtain ⟨l, hP, hl⟩ : ∃ l, RdB w (cutR vb 0 (min bs.length 400)) l ∧ l.length ≤ 400 := ⟨_, cut_rd hR 400, by simp; omega⟩
  refine tk_seq ?_
  refine tk_region ?_
  refine tk_act rfl ?_; refine a_boxL rfl rfl fun b2 => ?_
  refine tk_q rfl rfl rfl (y_assign rfl) ?_
  refine tk_nil ?_
  refine tk_then ?_
  refine tk_seq ?_
  refine tk_region ?_
  refine tk_q rfl rfl rfl (y_fld0 rfl (by kernel_rfl)) ?_
  refine tk_q rfl rfl rfl (y_cutA (m := 32) (sz := 1) rfl (by kernel_rfl)) ?_
  refine tk_act rfl ?_; refine a_callv [] _ rfl (by kernel_rfl) rfl (fun w' hw' => makeR_spec _ Kb w' hK (cel_rd (hw'.mem (.head _)) (pk_key hK) (by rw [List.length_map, hK]) (by omega))) rfl fun kb _ => ?_
  refine tk_q rfl rfl rfl (y_move rfl) ?_
  refine tk_q rfl rfl rfl (y_extract rfl rfl) ?_
  refine tk_q rfl rfl rfl (y_extract rfl rfl) ?_
  refine tk_q rfl rfl rfl (y_assign rfl) ?_
  refine tk_q rfl rfl rfl (y_assign rfl) ?_
  refine tk_nil ?_
  refine tk_then ?_
  refine tk_seq ?_
  refine tk_region ?_
  refine tk_q rfl rfl rfl (y_move rfl) ?_
  refine tk_q rfl rfl rfl (y_fldN 32 rfl (by kernel_rfl)) ?_
  refine tk_q rfl rfl rfl (y_loadA 16 rfl (by kernel_rfl) (by simp [hK, hN]) (hcs (vs := N.map B) (.tail _ (.head _)) (pk_num hK hN))) ?_
  refine tk_act rfl ?_; refine a_callv [] _ rfl (by kernel_rfl) rfl (fun w' hw' => begin_spec kb N w' hN) rfl fun fb _ => ?_
  refine tk_q rfl rfl rfl (y_move rfl) ?_
  refine tk_q rfl rfl rfl (y_extract rfl rfl) ?_
  refine tk_q rfl rfl rfl (y_extract rfl rfl) ?_
  refine tk_q rfl rfl rfl (y_assign rfl) ?_
  refine tk_q rfl rfl rfl (y_assign rfl) ?_
  refine tk_nil ?_
  refine tk_then ?_
  refine tk_seq ?_
  refine tk_region ?_
  refine tk_q rfl rfl rfl (y_move rfl) ?_
  refine tk_q rfl rfl rfl (y_fldN 32 rfl (by kernel_rfl)) ?_
  refine tk_q rfl rfl rfl (y_loadA 16 rfl (by kernel_rfl) (by simp [hK, hN]) (hcs (vs := N.map B) (.tail _ (.tail _ (.head _))) (pk_num hK hN))) ?_
  refine tk_act rfl ?_; refine a_callv [] _ rfl (by kernel_rfl) rfl (fun w' hw' => begin_spec kb N w' hN) rfl fun hb _ => ?_
  refine tk_q rfl rfl rfl (y_move rfl) ?_
  refine tk_q rfl rfl rfl (y_extract rfl rfl) ?_
  refine tk_q rfl rfl rfl (y_extract rfl rfl) ?_
  refine tk_q rfl rfl rfl (y_assign rfl) ?_
  refine tk_q rfl rfl rfl (y_assign rfl) ?_
  refine tk_nil ?_
  refine tk_then ?_
  refine tk_seq ?_
  refine tk_seq ?_
  refine tk_region ?_
  refine tk_act rfl ?_; refine a_callv [] _ rfl (by kernel_rfl) rfl (fun w' hw' => hides_spec w') rfl fun _ _ => ?_
  refine tk_q rfl rfl rfl (y_not rfl) ?_
  refine tk_q rfl rfl rfl (y_move rfl) ?_
  refine tk_gq rfl rfl rfl (y_move rfl) ?_
  refine tk_gqe (.bool false) rfl rfl rfl (y_neq rfl rfl) (bool_f (by omega)) ?_
  refine tk_q rfl rfl rfl (y_pick0 rfl rfl) ?_
  refine tk_q rfl rfl rfl (y_move rfl) ?_
  refine tk_gq rfl rfl rfl (y_move rfl) ?_
  refine tk_gqe (.bool false) rfl rfl rfl (y_neq rfl rfl) (bool_f (by omega)) ?_
  refine tk_q rfl rfl rfl (y_pick0 rfl rfl) ?_
  refine tk_q rfl rfl rfl (y_move rfl) ?_
  refine tk_gq rfl rfl rfl (y_move rfl) ?_
  refine tk_gqe (.bool false) rfl rfl rfl (y_neq rfl rfl) (bool_f (by omega)) ?_
  refine tk_q rfl rfl rfl (y_pick0 rfl rfl) ?_
  refine tk_nil ?_
  refine tk_then ?_
  refine tk_cond0 rfl ?_
  refine tk_skip ?_
  refine tk_then ?_
  refine tk_seq ?_
  refine tk_region ?_
  refine tk_act rfl ?_; refine a_slit0 el5 rfl fun v54 => ?_
  refine tk_q rfl rfl rfl (y_fldN 49 rfl (by kernel_rfl)) ?_
  refine tk_q rfl rfl rfl (y_load rfl rfl (hc (.tail _ (.tail _ (.tail _ (.tail _ (.head _))))) (pk_49 hK hN))) ?_
  refine tk_q rfl rfl rfl (y_fldN 49 rfl (by kernel_rfl)) ?_
  refine tk_q rfl rfl rfl (y_load rfl rfl (hc (.tail _ (.tail _ (.tail _ (.tail _ (.head _))))) (pk_49 hK hN))) ?_
  refine tk_q rfl rfl rfl (y_lenR rfl hR rfl) ?_
  refine tk_qe (I ((min bs.length 400 : Nat) : Int)) rfl rfl rfl (y_minI rfl rfl) (by simp only [I, List.length_map]; congr 1; omega) ?_
  refine tk_q rfl rfl rfl (y_cutRh (min bs.length 400) rfl rfl hR (by kernel_rfl) (by simp <;> omega)) ?_
  refine tk_act rfl ?_; refine a_appendR (H1 := []) rfl rfl el5 rfl rfl (fun w hw => hP.fo hw.fr (.inr (fun h => h))) oneB (by simp; omega) fun v62 => ?_
  rw [own_app0]
  refine tk_form (p := ∃ w0, RdB w0 v62 l) (fun w hw => ⟨w, own_rd (hw.mem (.head _))⟩) fun hV => ?_
  refine tk_q rfl rfl rfl (y_assign rfl) ?_
  refine tk_nil ?_
  refine tk_then ?_
  refine tk_seq ?_
  refine tk_region ?_
  refine tk_q rfl rfl rfl (y_move rfl) ?_
  refine tk_q rfl rfl rfl (y_str (l := l) rfl rfl rfl rfl (fun w hw => own_rd (hw.mem (.head _)))) ?_
  refine tk_q rfl rfl rfl (y_assign rfl) ?_
  refine tk_nil ?_
  refine tk_then ?_
  refine tk_seq ?_
  refine tk_region ?_
  refine tk_q rfl rfl rfl (y_move rfl) ?_
  refine tk_q rfl rfl rfl (y_move rfl) ?_
  refine tk_act rfl ?_; refine a_slit1 rfl hV.choose_spec.one el74 rfl fun b67 => ?_
  refine tk_act rfl ?_; refine a_callv [_, _, _] _ rfl (by kernel_rfl) rfl (fun w' hw' => hide1_spec fb kb 0 (keyW Kb) N b67 v62 l w' hN (hw'.mem (.tail _ (.tail _ (.tail _ (.head _))))) (hw'.two 3 4 (by omega) rfl rfl).symm (fun j hj => cel_cell (hw'.mem (.tail _ (.tail _ (.tail _ (.tail _ (.head _)))))) (getB (by rw [keyW_len hK]; exact hj))) (cel_cell (hw'.mem (.head _)) rfl) (hw'.two 0 3 (by omega) rfl rfl) (own_rd (hw'.mem (.tail _ (.head _)))) ((own_ne hw' 1 3 (by omega) rfl rfl).imp List.map_eq_nil_iff.1 id) (by omega) (by omega)) rfl fun va _ => ?_
  refine tk_q rfl rfl rfl (y_assign rfl) ?_
  refine tk_nil ?_
  refine tk_then ?_
  refine tk_seq ?_
  refine tk_region ?_
  simp only [Nat.zero_add]
  refine tk_form (p := ∃ w0, RdB w0 va (hideL (keyW Kb) N 0 l)) (fun w hw => ⟨w, own_rd (hw.mem (.tail _ (.tail _ (.tail _ (.head _)))))⟩) fun hA => ?_
  refine tk_own0 5 ?_
  refine tk_q rfl rfl rfl (y_assign rfl) ?_
  refine tk_nil ?_
  refine tk_then ?_
  refine tk_seq ?_
  refine tk_region ?_
  refine tk_q rfl rfl rfl (y_move rfl) ?_
  refine tk_q rfl rfl rfl (y_assign rfl) ?_
  refine tk_nil ?_
  refine tk_then ?_
  refine tk_seqI (X := Nat × Value × Value) (fun x => x.1 ≤ l.length ∧ (∀ w, RdB w v62 l → RdB w x.2.2 (l.drop x.1)) ∧ (adOf x.2.2).block = (adOf v62).block) (fun x => [(1, vc), (7, .pointer (some ⟨fb, 0, none⟩)), (9, .pointer (some ⟨hb, 0, none⟩)), (11, v62), (12, Str l), (13, va), (14, x.2.1), (15, x.2.2)]) (fun x => [ownB x.2.1 (hideL (keyW Kb) N 0 (l.take x.1)) 5, ownB v62 l 5, cel hb (flowCs kb N (x.1 : Int)) 39, ownB va (hideL (keyW Kb) N 0 l) 5, cel fb (flowCs kb N (l.length : Int)) 39, cel kb ((keyW Kb).map B) 59]) ?_ ?_
  · skip
    refine tk_seq ?_
    refine tk_region ?_
    refine tk_q rfl rfl rfl (y_assign rfl) ?_
    refine tk_nil ?_
    refine tk_then ?_
    refine tk_block ?_
    refine tk_loop (X := Nat × Nat × Value × Value) (fun x => x.1 ≤ 10 ∧ x.2.1 ≤ l.length ∧ (∀ w, RdB w v62 l → RdB w x.2.2.2 (l.drop x.2.1)) ∧ (adOf x.2.2.2).block = (adOf v62).block) (fun x => [(1, vc), (7, .pointer (some ⟨fb, 0, none⟩)), (9, .pointer (some ⟨hb, 0, none⟩)), (11, v62), (12, Str l), (13, va), (14, x.2.2.1), (15, x.2.2.2), (16, I (x.1 : Int))]) (fun x => [ownB x.2.2.1 (hideL (keyW Kb) N 0 (l.take x.2.1)) 5, ownB v62 l 5, cel hb (flowCs kb N (x.2.1 : Int)) 39, ownB va (hideL (keyW Kb) N 0 l) 5, cel fb (flowCs kb N (l.length : Int)) 39, cel kb ((keyW Kb).map B) 59]) (fun x => 10 - x.1) ((0, 0, .slice none 0 0, v62)) (⟨Nat.zero_le _, Nat.zero_le _, fun _ h => h, rfl⟩) (by repeat (first | exact trivial | refine ⟨rfl, ?_⟩)) (by show List.Sublist [ownB (.slice none 0 0) (hideL (keyW Kb) N 0 (l.take 0)) 5, _, _, _, _, _] _; rw [List.take_zero, hideL_nil]; exact .cons_cons _ (.cons _ (.cons_cons _ (.cons_cons _ (.cons_cons _ (.cons_cons _ (.cons_cons _ (List.nil_sublist _)))))))) ?_
    rintro ⟨n, o, vg, rv⟩ ⟨hn, ho, hv1, hv2⟩
    dsimp only at hn ho hv1 hv2 ⊢
    refine tk_seq ?_
    refine tk_seq ?_
    refine tk_region ?_
    refine tk_q rfl rfl rfl (y_move rfl) ?_
    refine tk_q rfl rfl rfl (y_move rfl) ?_
    refine tk_q rfl rfl rfl (y_lenR rfl hC rfl) ?_
    refine tk_qs rfl rfl rfl (y_lss rfl rfl) (fun hs12_3 => ?_) (fun hs12_3 => ?_)
    · skip
      refine tk_q rfl rfl rfl (y_move rfl) ?_
      refine tk_gq rfl rfl rfl (y_move rfl) ?_
      refine tk_gqs rfl rfl rfl (y_lss rfl rfl) (fun hs12_6 => ?_) (fun hs12_6 => ?_)
      · skip
        refine tk_q rfl rfl rfl (y_pick1 rfl rfl) ?_
        refine tk_q rfl rfl rfl (y_move rfl) ?_
        refine tk_gq rfl rfl rfl (y_move rfl) ?_
        refine tk_gq rfl rfl rfl (y_lenR rfl (hv1 _ hV.choose_spec) rfl) ?_
        refine tk_gqs rfl rfl rfl (y_gtr rfl rfl) (fun hs12_11 => ?_) (fun hs12_11 => ?_)
        · skip
          refine tk_q rfl rfl rfl (y_pick1 rfl rfl) ?_
          refine tk_nil ?_
          refine tk_then ?_
          refine tk_cond1 rfl ?_
          refine tk_skip ?_
          refine tk_then ?_
          refine tk_seq ?_
          refine tk_block ?_
          refine tk_seq ?_
          refine tk_region ?_
          have hnz : n < zs.length := by have h1 := hs12_3; rw [List.length_map] at h1; omega
          have hol : o < l.length := by have h1 := hs12_11; rw [List.length_map, List.length_drop] at h1; omega
          obtain ⟨z, hz⟩ : ∃ z, (zs.map I)[n]? = some (I z) := ⟨zs[n], by rw [List.getElem?_map, List.getElem?_eq_getElem (by omega)]; rfl⟩
          obtain ⟨m, hm5, hm⟩ := cntM z (l.length - o + 1) (by omega)
          refine tk_q rfl rfl rfl (y_move rfl) ?_
          refine tk_q rfl rfl rfl (y_move rfl) ?_
          refine tk_q rfl rfl rfl (y_ixR rfl rfl hC (by omega) (by kernel_rfl)) ?_
          refine tk_q rfl rfl rfl (y_load rfl rfl (hrd hC (u := I z) hz (fun h => h))) ?_
          refine tk_q rfl rfl rfl (y_conv rfl rfl rfl) ?_
          refine tk_q rfl rfl rfl (y_move rfl) ?_
          refine tk_q rfl rfl rfl (y_lenR rfl (hv1 _ hV.choose_spec) rfl) ?_
          refine tk_qe (I ((l.length - o + 1 : Nat) : Int)) rfl rfl rfl (y_addI rfl rfl (by rw [List.length_map, List.length_drop]; omega)) (by rw [List.length_map, List.length_drop]; congr 1) ?_
          refine tk_q rfl rfl rfl (y_convi64 rfl rfl rfl (wrap_u64 (by omega))) ?_
          refine tk_qe (.int .u64 (m : Int)) rfl rfl rfl (y_rem rfl rfl (by omega)) (by rw [hm]) ?_
          refine tk_qe (I (m : Int)) rfl rfl rfl (y_conv rfl rfl rfl) (by simp only [I]; rw [wrap_in (by omega) (by omega)]) ?_
          refine tk_q rfl rfl rfl (y_assign rfl) ?_
          refine tk_nil ?_
          refine tk_then ?_
          refine tk_seq ?_
          refine tk_draw (fun _ => True) [] (by kernel_rfl) ?_
          have hp1 : ∀ w, RdB w v62 l → RdB w (cutR rv 0 (m / 2)) ((l.drop o).take (m / 2)) := fun w h => cut1 (hv1 w h) (by simp; omega)
          have hp3 : ∀ w, RdB w v62 l → RdB w (cutR rv (m / 2) m) (((l.drop o).drop (m / 2)).take (m - m / 2)) := fun w h => cut3 (hv1 w h) (by simp; omega)
          refine tx_q 0 rfl (by kernel_rfl) rfl rfl rfl (fun _ _ _ h => h) (y_move rfl) ?_
          refine tx_q 1 rfl (by kernel_rfl) rfl rfl rfl (fun _ _ _ h => h) (y_move rfl) ?_
          refine tx_q 2 rfl (by kernel_rfl) rfl rfl rfl (fun _ _ _ h => h) (y_move rfl) ?_
          refine tx_q 3 rfl (by kernel_rfl) rfl rfl rfl (fun _ _ _ h => h) (y_move rfl) ?_
          refine tx_q 4 rfl (by kernel_rfl) rfl rfl rfl (fun _ _ _ h => h) (y_quoN (b := 2) rfl rfl (by omega)) ?_
          refine tx_q 5 rfl (by kernel_rfl) rfl rfl rfl (fun _ _ _ h => h) (y_cutRh (m / 2) rfl rfl (hv1 _ hV.choose_spec) (by kernel_rfl) (by simp; omega)) ?_
          refine tx_q 6 rfl (by kernel_rfl) rfl rfl rfl (fun _ _ _ h => h) (y_move rfl) ?_
          refine tx_q 7 rfl (by kernel_rfl) rfl rfl rfl (fun _ _ _ h => h) (y_move rfl) ?_
          refine tx_q 8 rfl (by kernel_rfl) rfl rfl rfl (fun _ _ _ h => h) (y_quoN (b := 2) rfl rfl (by omega)) ?_
          refine tx_q 9 rfl (by kernel_rfl) rfl rfl rfl (fun _ _ _ h => h) (y_move rfl) ?_
          refine tx_q 10 rfl (by kernel_rfl) rfl rfl rfl (fun _ _ _ h => h) (y_cutR (m / 2) m rfl rfl rfl (hv1 _ hV.choose_spec) (by kernel_rfl) (by simp; omega)) ?_
          refine tx_a 11 rfl (by kernel_rfl) rfl ?_; refine a_slit3 rfl rfl rfl (hp1 _ hV.choose_spec).one rfl (hp3 _ hV.choose_spec).one el74 rfl fun b107 => ?_
          refine tk_S (fun _ _ => trivial) ?_
          refine tx_a 12 rfl (by kernel_rfl) rfl ?_; refine a_callv [_, _, _] _ rfl (by kernel_rfl) rfl (fun w' hw' => hide3_spec hb kb o (keyW Kb) N b107 _ _ (.slice none 0 0) ((l.drop o).take (m / 2)) [] (((l.drop o).drop (m / 2)).take (m - m / 2)) w' hN (hw'.mem (.tail _ (.tail _ (.tail _ (.head _))))) (hw'.two 3 6 (by omega) rfl rfl).symm (fun j hj => cel_cell (hw'.mem (.tail _ (.tail _ (.tail _ (.tail _ (.tail _ (.tail _ (.head _)))))))) (getB (by rw [keyW_len hK]; exact hj))) (hw'.mem (.head _)) (hw'.two 0 3 (by omega) rfl rfl) (hp1 _ (own_rd (hw'.mem (.tail _ (.tail _ (.head _)))))) (.inl ⟨rfl, rfl⟩) (hp3 _ (own_rd (hw'.mem (.tail _ (.tail _ (.head _)))))) (sep hv2 (own_ne hw' 2 3 (by omega) rfl rfl) (fun h => by rw [h]; simp)) (sep hv2 (own_ne hw' 2 3 (by omega) rfl rfl) (fun h => by rw [h]; simp)) rfl (by omega) (by simp; omega)) rfl fun vh _ => ?_
          refine tk_S (fun _ _ => trivial) ?_
          refine tx_a 13 rfl (by kernel_rfl) rfl ?_; simp only [List.cons_append, List.nil_append]; refine a_appB (H1 := [_]) (z := hideL (keyW Kb) N 0 (l.take (o + m))) (grow1 (by omega)) rfl rfl el5 rfl rfl (fun w hw => own_rd (hw.mem (.tail _ (.tail _ (.tail _ (.head _)))))) (by rw [hideL_len, hideL_len]; simp; omega) fun vg2 => ?_
          refine tk_S (fun _ _ => trivial) ?_
          refine tx_q 14 rfl (by kernel_rfl) rfl rfl rfl (fun _ _ _ h => h) (y_assign rfl) ?_
          refine tx_done (by kernel_rfl) ?_
          refine tk_then ?_
          refine tk_region ?_
          refine tk_q rfl rfl rfl (y_move rfl) ?_
          refine tk_q rfl rfl rfl (y_move rfl) ?_
          refine tk_q rfl rfl rfl (y_cutRl m rfl rfl (hv1 _ hV.choose_spec) (by kernel_rfl) (by simp; omega)) ?_
          refine tk_q rfl rfl rfl (y_assign rfl) ?_
          refine tk_nil ?_
          refine tk_in_normal ?_
          refine tk_then ?_
          refine tk_region ?_
          refine tk_q rfl rfl rfl (y_move rfl) ?_
          refine tk_qe (I ((n + 1 : Nat) : Int)) rfl rfl rfl (y_addI rfl rfl (by omega)) (by congr 1) ?_
          refine tk_q rfl rfl rfl (y_assign rfl) ?_
          refine tk_nil ?_
          exact tk_again (n + 1, o + m, vg2, cutR rv m ((l.drop o).map B).length) ⟨by show n + 1 ≤ 10; omega, by show o + m ≤ l.length; omega, fun w h => cutEnd (hv1 w h) (by simp; omega), by rw [adOf_cut]; exact hv2⟩ (by show 10 - (n + 1) < 10 - n; omega) (by repeat (first | exact trivial | refine ⟨rfl, ?_⟩)) (by dsimp only; rw [drop_len (show o + m ≤ l.length by omega)]; exact .cons _ (.cons_cons _ (.cons_cons _ (.cons _ (List.Sublist.refl _)))))
        · skip
          refine tk_q rfl rfl rfl (y_pick1 rfl rfl) ?_
          refine tk_nil ?_
          refine tk_then ?_
          refine tk_cond0 rfl ?_
          refine tk_exit ?_
          refine tk_then_exit ?_
          refine tk_then_exit ?_
          refine tk_in_hit ?_
          exact tk_to (o, vg, rv) ⟨ho, hv1, hv2⟩ (by repeat (first | exact trivial | refine ⟨rfl, ?_⟩)) (List.Sublist.refl _)
      · skip
        refine tk_q rfl rfl rfl (y_pick1 rfl rfl) ?_
        refine tk_q rfl rfl rfl (y_move rfl) ?_
        refine tk_gno rfl rfl rfl ?_
        refine tk_gno rfl rfl rfl ?_
        refine tk_gno rfl rfl rfl ?_
        refine tk_q rfl rfl rfl (y_pick0 rfl rfl) ?_
        refine tk_nil ?_
        refine tk_then ?_
        refine tk_cond0 rfl ?_
        refine tk_exit ?_
        refine tk_then_exit ?_
        refine tk_then_exit ?_
        refine tk_in_hit ?_
        exact tk_to (o, vg, rv) ⟨ho, hv1, hv2⟩ (by repeat (first | exact trivial | refine ⟨rfl, ?_⟩)) (List.Sublist.refl _)
    · skip
      refine tk_q rfl rfl rfl (y_move rfl) ?_
      refine tk_gno rfl rfl rfl ?_
      refine tk_gno rfl rfl rfl ?_
      refine tk_q rfl rfl rfl (y_pick0 rfl rfl) ?_
      refine tk_q rfl rfl rfl (y_move rfl) ?_
      refine tk_gno rfl rfl rfl ?_
      refine tk_gno rfl rfl rfl ?_
      refine tk_gno rfl rfl rfl ?_
      refine tk_q rfl rfl rfl (y_pick0 rfl rfl) ?_
      refine tk_nil ?_
      refine tk_then ?_
      refine tk_cond0 rfl ?_
      refine tk_exit ?_
      refine tk_then_exit ?_
      refine tk_then_exit ?_
      refine tk_in_hit ?_
      exact tk_to (o, vg, rv) ⟨ho, hv1, hv2⟩ (by repeat (first | exact trivial | refine ⟨rfl, ?_⟩)) (List.Sublist.refl _)
  · intro ⟨o, vg, rv⟩ ⟨ho, hv1, hv2⟩
    dsimp only at ho hv1 hv2 ⊢
    refine tk_seq ?_
    refine tk_region ?_
    refine tk_q rfl rfl rfl (y_move rfl) ?_
    refine tk_q rfl rfl rfl (y_move rfl) ?_
    refine tk_q rfl rfl rfl (y_move rfl) ?_
    refine tk_act rfl ?_; refine a_slit1 rfl (hv1 _ hV.choose_spec).one el74 rfl fun b116 => ?_
    refine tk_act rfl ?_; refine a_callv [_, _, _] _ rfl (by kernel_rfl) rfl (fun w' hw' => hide1_spec hb kb o (keyW Kb) N b116 rv (l.drop o) w' hN (hw'.mem (.tail _ (.tail _ (.tail _ (.head _))))) (hw'.two 3 6 (by omega) rfl rfl).symm (fun j hj => cel_cell (hw'.mem (.tail _ (.tail _ (.tail _ (.tail _ (.tail _ (.tail _ (.head _)))))))) (getB (by rw [keyW_len hK]; exact hj))) (cel_cell (hw'.mem (.head _)) rfl) (hw'.two 0 3 (by omega) rfl rfl) (hv1 _ (own_rd (hw'.mem (.tail _ (.tail _ (.head _)))))) (by have := own_ne hw' 2 3 (by omega) rfl rfl; rw [hv2]; exact this.imp (fun h => by rw [List.map_eq_nil_iff.1 h]; simp) id) (by omega) (by simp; omega)) rfl fun vh _ => ?_
    refine tk_act rfl ?_; simp only [List.cons_append, List.nil_append]; refine a_appB (H1 := [_]) (z := hideL (keyW Kb) N 0 l) (grow2 ho) rfl rfl el5 rfl rfl (fun w hw => own_rd (hw.mem (.tail _ (.tail _ (.tail _ (.head _)))))) (by rw [hideL_len, hideL_len]; simp; omega) fun vg2 => ?_
    refine tk_q rfl rfl rfl (y_assign rfl) ?_
    refine tk_nil ?_
    refine tk_then ?_
    refine tk_seq ?_
    refine tk_seq ?_
    refine tk_region ?_
    refine tk_q rfl rfl rfl (y_move rfl) ?_
    refine tk_q rfl rfl rfl (y_str (l := hideL (keyW Kb) N 0 l) rfl rfl rfl rfl (fun w hw => own_rd (hw.mem (.tail _ (.head _))))) ?_
    refine tk_q rfl rfl rfl (y_move rfl) ?_
    refine tk_q rfl rfl rfl (y_str (l := hideL (keyW Kb) N 0 l) rfl rfl rfl rfl (fun w hw => own_rd (hw.mem (.tail _ (.tail _ (.tail _ (.tail _ (.tail _ (.head _))))))))) ?_
    refine tk_qe (.bool false) rfl rfl rfl (y_strNe rfl rfl) (bool_f (fun h => h rfl)) ?_
    refine tk_q rfl rfl rfl (y_move rfl) ?_
    refine tk_gq rfl rfl rfl (y_move rfl) ?_
    refine tk_gq rfl rfl rfl (y_str (l := l) rfl rfl rfl rfl (fun w hw => own_rd (hw.mem (.tail _ (.tail _ (.head _)))))) ?_
    refine tk_gq rfl rfl rfl (y_move rfl) ?_
    refine tk_gqe (.bool false) rfl rfl rfl (y_strNe rfl rfl) (bool_f (fun h => h rfl)) ?_
    refine tk_q rfl rfl rfl (y_pick0 rfl rfl) ?_
    refine tk_q rfl rfl rfl (y_move rfl) ?_
    refine tk_gq rfl rfl rfl (y_move rfl) ?_
    refine tk_gact rfl ?_; refine a_callv [] _ rfl (by kernel_rfl) rfl (fun w' hw' => at_spec hb _ w' (cel_cell (hw'.mem (.tail _ (.tail _ (.tail _ (.tail _ (.head _)))))) (fl17 hN))) rfl fun _ _ => ?_
    refine tk_gq rfl rfl rfl (y_move rfl) ?_
    refine tk_gq rfl rfl rfl (y_lenR rfl hV.choose_spec rfl) ?_
    refine tk_gqe (.bool false) rfl rfl rfl (y_neq rfl rfl) (bool_f (by simp; omega)) ?_
    refine tk_q rfl rfl rfl (y_pick0 rfl rfl) ?_
    refine tk_q rfl rfl rfl (y_move rfl) ?_
    refine tk_gq rfl rfl rfl (y_move rfl) ?_
    refine tk_gact rfl ?_; refine a_callv [_, _, _, _] _ rfl (by kernel_rfl) rfl (fun w' hw' => hide_spec hb kb (o + (l.drop o).length) (keyW Kb) N (.slice none 0 0) [] w' hN (hw'.mem (.tail _ (.tail _ (.tail _ (.tail _ (.head _)))))) (hw'.two 4 7 (by omega) rfl rfl).symm (fun j hj => cel_cell (hw'.mem (.tail _ (.tail _ (.tail _ (.tail _ (.tail _ (.tail _ (.tail _ (.head _))))))))) (getB (by rw [keyW_len hK]; exact hj))) (.inl ⟨rfl, rfl⟩) (.inl rfl) (fun p hp => by cases hp) (by simp; omega) (by simp) (by simp)) rfl fun v3 _ => ?_
    refine tk_form (p := ∃ w0, RdB w0 v3 (hideL (keyW Kb) N (o + (l.drop o).length) [])) (fun w hw => ⟨w, own_rd (hw.mem (.tail _ (.tail _ (.tail _ (.tail _ (.head _))))))⟩) fun h3 => ?_
    refine tk_gq rfl rfl rfl (y_lenR rfl h3.choose_spec rfl) ?_
    refine tk_gqe (.bool false) rfl rfl rfl (y_neq rfl rfl) (bool_f (by simp)) ?_
    refine tk_q rfl rfl rfl (y_pick0 rfl rfl) ?_
    refine tk_nil ?_
    refine tk_then ?_
    refine tk_cond0 rfl ?_
    refine tk_skip ?_
    refine tk_then ?_
    refine tk_seq ?_
    refine tk_seq ?_
    refine tk_region ?_
    refine tk_q rfl rfl rfl (y_move rfl) ?_
    refine tk_act rfl ?_; refine a_callv [_, _, _, _, _, _, _] _ rfl (by kernel_rfl) rfl (fun w' hw' => seek_spec fb kb 0 N _ w' hN (hw'.mem (.tail _ (.tail _ (.tail _ (.tail _ (.tail _ (.tail _ (.tail _ (.head _))))))))) (by omega)) rfl fun _ _ => ?_
    refine tk_qe (.bool false) rfl rfl rfl (y_neq rfl rfl) (bool_f (by omega)) ?_
    refine tk_nil ?_
    refine tk_then ?_
    refine tk_cond0 rfl ?_
    refine tk_skip ?_
    refine tk_then ?_
    refine tk_seq ?_
    refine tk_region ?_
    refine tk_q rfl rfl rfl (y_move rfl) ?_
    refine tk_q rfl rfl rfl (y_move rfl) ?_
    refine tk_act rfl ?_; refine a_slit1 rfl hA.choose_spec.one el74 rfl fun b148 => ?_
    refine tk_act rfl ?_; refine a_callv [_, _, _, _, _, _, _, _] _ rfl (by kernel_rfl) rfl (fun w' hw' => hide1_spec fb kb 0 (keyW Kb) N b148 va (hideL (keyW Kb) N 0 l) w' hN (hw'.mem (.tail _ (.tail _ (.tail _ (.tail _ (.tail _ (.tail _ (.tail _ (.tail _ (.head _)))))))))) (hw'.two 8 9 (by omega) rfl rfl).symm (fun j hj => cel_cell (hw'.mem (.tail _ (.tail _ (.tail _ (.tail _ (.tail _ (.tail _ (.tail _ (.tail _ (.tail _ (.head _))))))))))) (getB (by rw [keyW_len hK]; exact hj))) (cel_cell (hw'.mem (.head _)) rfl) (hw'.two 0 8 (by omega) rfl rfl) (own_rd (hw'.mem (.tail _ (.tail _ (.tail _ (.tail _ (.tail _ (.tail _ (.tail _ (.head _)))))))))) ((own_ne hw' 7 8 (by omega) rfl rfl).imp List.map_eq_nil_iff.1 id) (by omega) (by simp; omega)) rfl fun vp _ => ?_
    refine tk_q rfl rfl rfl (y_assign rfl) ?_
    refine tk_nil ?_
    refine tk_then ?_
    refine tk_seq ?_
    refine tk_seq ?_
    refine tk_region ?_
    refine tk_q rfl rfl rfl (y_assign rfl) ?_
    refine tk_nil ?_
    refine tk_then ?_
    refine tk_block ?_
    refine tk_loop (X := Nat × List Value) (fun x => x.1 ≤ l.length ∧ x.2.length = l.length) (fun x => [(13, va), (18, vp), (12, Str l), (19, I (x.1 : Int))]) (fun x => [own va (hideL (keyW Kb) N 0 l).length x.2 5 1, ownB vp (hideL (keyW Kb) N 0 (hideL (keyW Kb) N 0 l)) 5]) (fun x => l.length - x.1) ((0, (hideL (keyW Kb) N 0 l).map B)) (⟨Nat.zero_le _, by simp⟩) (by repeat (first | exact trivial | refine ⟨rfl, ?_⟩)) (by simp only [List.cons_append, List.nil_append]; exact .cons _ (.cons _ (.cons _ (.cons _ (.cons _ (.cons _ (.cons _ (.cons_cons _ (.cons_cons _ (List.nil_sublist _)))))))))) ?_
    rintro ⟨k, xs⟩ ⟨hk, hxl⟩
    dsimp only at hk hxl ⊢
    have hml : (List.map B (hideL (keyW Kb) N 0 l)).length = l.length := by rw [List.length_map, hideL_len]
    have hml2 : (hideL (keyW Kb) N 0 l).length = l.length := hideL_len
    refine tk_seq ?_
    refine tk_seq ?_
    refine tk_region ?_
    refine tk_q rfl rfl rfl (y_move rfl) ?_
    refine tk_q rfl rfl rfl (y_move rfl) ?_
    refine tk_q rfl rfl rfl (y_lenR rfl hA.choose_spec rfl) ?_
    refine tk_q rfl rfl rfl (y_lss rfl rfl) ?_
    refine tk_nil ?_
    refine tk_then ?_
    refine tk_condP rfl (fun h153 => ?_) (fun h153 => ?_)
    · skip
      refine tk_skip ?_
      refine tk_then ?_
      refine tk_seq ?_
      refine tk_block ?_
      refine tk_region ?_
      refine tk_q rfl rfl rfl (y_move rfl) ?_
      refine tk_q rfl rfl rfl (y_move rfl) ?_
      refine tk_q rfl rfl rfl (y_ixR rfl rfl hA.choose_spec (by simp; omega) (by kernel_rfl)) ?_
      refine tk_act rfl ?_; refine a_storeOwn (H1 := []) rfl rfl rfl (by kernel_rfl) rfl (by omega) ?_
      refine tk_nil ?_
      refine tk_in_normal ?_
      refine tk_then ?_
      refine tk_region ?_
      refine tk_q rfl rfl rfl (y_move rfl) ?_
      refine tk_qe (I ((k + 1 : Nat) : Int)) rfl rfl rfl (y_addI rfl rfl (by omega)) (by congr 1) ?_
      refine tk_q rfl rfl rfl (y_assign rfl) ?_
      refine tk_nil ?_
      exact tk_again (k + 1, xs.set k (B 85)) ⟨by show k + 1 ≤ l.length; omega, by simpa using hxl⟩ (by show l.length - (k + 1) < l.length - k; omega) (by repeat (first | exact trivial | refine ⟨rfl, ?_⟩)) (List.Sublist.refl _)
    · skip
      refine tk_exit ?_
      refine tk_then_exit ?_
      refine tk_then_exit ?_
      refine tk_in_hit ?_
      refine tk_then ?_
      refine tk_seq ?_
      refine tk_region ?_
      refine tk_q rfl rfl rfl (y_move rfl) ?_
      refine tk_q rfl rfl rfl (y_str (l := hideL (keyW Kb) N 0 (hideL (keyW Kb) N 0 l)) rfl rfl rfl rfl (fun w hw => own_rd (hw.mem (.tail _ (.head _))))) ?_
      refine tk_q rfl rfl rfl (y_move rfl) ?_
      refine tk_qe (.bool true) rfl rfl rfl (y_strEq rfl rfl) (bool_t (hideL_twice)) ?_
      refine tk_q rfl rfl rfl (y_assign rfl) ?_
      refine tk_nil ?_
      refine tk_then ?_
      refine tk_retc ?_
      exact tk_ret () trivial (.inl rfl) (r1 rfl rfl) (List.nil_sublist _)
end Go.Proofs.Ytfofkjajlfphjaa

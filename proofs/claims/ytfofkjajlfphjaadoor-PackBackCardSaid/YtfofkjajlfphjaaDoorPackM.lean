/- glyph: walks over In, where all is in form. -/
import Derived.Test.YtfofkjajlfphjaaDoorPackH
import Derived.Test.YtfofkjajlfphjaaDoorPackMade
import Derived.Test.YtfofkjajlfphjaaDoorPackC
import Derived.Test.YtfofkjajlfphjaaDoorEngFour
set_option linter.unusedSimpArgs false
set_option linter.unusedVariables false
namespace Go.Proofs.YtfofkjajlfphjaaDoor
open Go Go.RowKit
set_option maxRecDepth 100000
theorem drop_cons {α : Type} {b l : List α} {x d : α} {k : Nat} (h : b.drop k = x :: l) : k < b.length ∧ b.getD k d = x ∧ b.drop (k + 1) = l := by
  have hk : k < b.length := by
    rcases Nat.lt_or_ge k b.length with h1 | h1
    · exact h1
    · rw [List.drop_of_length_le h1] at h; cases h
  rw [List.drop_eq_getElem_cons hk] at h
  obtain ⟨h1, h2⟩ := List.cons.inj h
  exact ⟨hk, by rw [List.getD_eq_getElem?_getD, List.getElem?_eq_getElem hk]; exact h1, h2⟩
structure NAt (b r : List UInt8) (n k acc m : Nat) : Prop where
  k8 : k ≤ 8
  sum : acc + m * 2 ^ (7 * k) = n
  low : acc < 2 ^ (7 * k)
  rest : b.drop k = numL m ++ r
  big : m * 2 ^ (7 * k) < 4611686018427387904
  pos : k = 0 ∨ 1 ≤ m
theorem nat0 {b r : List UInt8} {n : Nat} (h : b = numL n ++ r) (hn : n < 4611686018427387904) : NAt b r n 0 0 n := ⟨by omega, by simp, by simp, by simpa using h, by simpa using hn, .inl rfl⟩
theorem nat_x {b r : List UInt8} {n k acc m : Nat} (h : NAt b r n k acc m) : k < b.length ∧ (128 ≤ m → b.getD k 0 = UInt8.ofNat (m % 128 + 128) ∧ b.drop (k + 1) = numL (m / 128) ++ r) ∧ (m < 128 → b.getD k 0 = UInt8.ofNat m ∧ b.drop (k + 1) = r) := by
  by_cases hm : m < 128
  · have h1 := h.rest
    rw [numL_lt hm] at h1
    obtain ⟨h2, h3, h4⟩ := drop_cons (d := 0) h1
    exact ⟨h2, fun h5 => absurd h5 (by omega), fun _ => ⟨h3, h4⟩⟩
  · have h1 := h.rest
    rw [numL_ge hm] at h1
    obtain ⟨h2, h3, h4⟩ := drop_cons (d := 0) h1
    exact ⟨h2, fun _ => ⟨h3, h4⟩, fun h5 => absurd h5 hm⟩
theorem nat_b {b r : List UInt8} {n k acc m : Nat} (h : NAt b r n k acc m) : ((b.getD k 0) &&& 127).toNat = m % 128 ∧ (128 ≤ (b.getD k 0).toNat ↔ 128 ≤ m) ∧ (m < 128 → (b.getD k 0).toNat = m) := by
  obtain ⟨_, h1, h2⟩ := nat_x h
  have e1 : ∀ x : UInt8, (x &&& 127).toNat = x.toNat % 128 := fun x => by rw [UInt8.toNat_and]; exact Nat.and_two_pow_sub_one_eq_mod x.toNat 7
  rw [e1]
  by_cases hm : m < 128
  · rw [(h2 hm).1]
    have : (UInt8.ofNat m).toNat = m := by simp; omega
    omega
  · rw [(h1 (by omega)).1]
    have : (UInt8.ofNat (m % 128 + 128)).toNat = m % 128 + 128 := by simp; omega
    omega
theorem pow_pos' (k : Nat) : 0 < 2 ^ (7 * k) := Nat.pow_pos (by decide)
theorem nat_or {b r : List UInt8} {n k acc m : Nat} (h : NAt b r n k acc m) : acc ||| (m % 128 * 2 ^ (7 * k)) = acc + m % 128 * 2 ^ (7 * k) ∧ m % 128 * 2 ^ (7 * k) < 4611686018427387904 ∧ acc < 4611686018427387904 ∧ acc + m % 128 * 2 ^ (7 * k) ≤ n := by
  have h1 := h.low
  have h2 : m % 128 * 2 ^ (7 * k) ≤ m * 2 ^ (7 * k) := Nat.mul_le_mul_right _ (Nat.mod_le _ _)
  have h3 := h.big
  have h4 : 2 ^ (7 * k) ≤ 2 ^ 56 := Nat.pow_le_pow_right (by decide) (by have := h.k8; omega)
  have h5 := h.sum
  refine ⟨?_, by omega, by omega, by omega⟩
  rw [Nat.or_comm, or_add _ _ _ h1, Nat.add_comm]
theorem nat_fin {b r : List UInt8} {n k acc m : Nat} (h : NAt b r n k acc m) (hm : m < 128) : acc + m % 128 * 2 ^ (7 * k) = n := by rw [Nat.mod_eq_of_lt hm]; exact h.sum
theorem nat_next {b r : List UInt8} {n k acc m : Nat} (h : NAt b r n k acc m) (hm : 128 ≤ m) : NAt b r n (k + 1) (acc + m % 128 * 2 ^ (7 * k)) (m / 128) := by
  have hp := pow_pos' k
  have e : 2 ^ (7 * (k + 1)) = 128 * 2 ^ (7 * k) := by rw [show 7 * (k + 1) = 7 + 7 * k by omega, Nat.pow_add]
  have e2 : m * 2 ^ (7 * k) = m / 128 * (128 * 2 ^ (7 * k)) + m % 128 * 2 ^ (7 * k) := by
    conv => lhs; rw [← Nat.div_add_mod m 128]
    rw [Nat.add_mul, Nat.mul_comm 128 (m / 128), Nat.mul_assoc]
  have hs := h.sum; have hb := h.big; have hl := h.low
  have hk : k < 8 := by
    rcases Nat.lt_or_ge k 8 with h1 | h1
    · exact h1
    · have : k = 8 := by have := h.k8; omega
      subst this
      omega
  refine ⟨by omega, ?_, ?_, ((nat_x h).2.1 hm).2, ?_, .inr (by omega)⟩
  · rw [e]; omega
  · rw [e]
    have : m % 128 * 2 ^ (7 * k) ≤ 127 * 2 ^ (7 * k) := Nat.mul_le_mul_right _ (by omega)
    omega
  · rw [e]; omega
theorem four_or {m : Nat} (h : m < 4294967296) : (((UInt8.ofNat (m / 2 ^ 24)).toNat * 2 ^ 24 ||| (UInt8.ofNat (m / 2 ^ 16)).toNat * 2 ^ 16) ||| (UInt8.ofNat (m / 2 ^ 8)).toNat * 2 ^ 8) ||| (UInt8.ofNat m).toNat = m := by
  have a1 : (UInt8.ofNat (m / 2 ^ 24)).toNat = m / 2 ^ 24 := by simp; omega
  have a2 : (UInt8.ofNat (m / 2 ^ 16)).toNat = m / 2 ^ 16 % 256 := by simp
  have a3 : (UInt8.ofNat (m / 2 ^ 8)).toNat = m / 2 ^ 8 % 256 := by simp
  have a4 : (UInt8.ofNat m).toNat = m % 256 := by simp
  rw [a1, a2, a3, a4]
  rw [Nat.or_assoc, Nat.or_assoc, or_add (m / 2 ^ 8 % 256) (m % 256) 8 (by omega), or_add (m / 2 ^ 16 % 256) _ 16 (by omega), or_add (m / 2 ^ 24) _ 24 (by omega)]
  omega
theorem ents_at {l : List Ent} {i : Nat} (h : i < l.length) : (l.drop i).flatMap entL = (l.getD i dEnt).id ++ (numL (l.getD i dEnt).kind ++ (numL (l.getD i dEnt).len ++ (l.drop (i + 1)).flatMap entL)) := by
  have e : l.getD i dEnt = l[i] := by rw [List.getD_eq_getElem?_getD, List.getElem?_eq_getElem h]; rfl
  rw [e, List.drop_eq_getElem_cons h]
  simp only [List.flatMap_cons, entL, List.append_assoc]
theorem headL_cut {l : List Ent} : headL l = [72, 89, 104] ++ (numL l.length ++ (l.drop 0).flatMap entL) := by rw [headL, List.append_assoc]; rfl
theorem take_id {l : List Ent} {i : Nat} (h : i < l.length) : (l.take i).map Ent.id ++ [(l.getD i dEnt).id] = (l.take (i + 1)).map Ent.id := by
  rw [← take_snoc (d := dEnt) h, List.map_append]; rfl
theorem not_before {n : UInt8} {s : WSt} {h : List Lum} (hi : MInv n s h) {i : Nat} (hl : i < s.l.length) : (s.l.getD i dEnt).id ∉ (s.l.take i).map Ent.id := fun hm => by
  obtain ⟨e, he, e2⟩ := List.mem_map.1 hm
  obtain ⟨j, hj, rfl⟩ := List.getElem_of_mem he
  rw [List.length_take] at hj
  have h1 := hi.nodup j i (by omega) hl
  apply h1
  rw [← e2, List.getElem_take, List.getD_eq_getElem?_getD, List.getElem?_eq_getElem (by omega)]; rfl
theorem ids32 {l : List Ent} : ∀ x ∈ l.map Ent.id, x.length = 32 := fun x hx => by
  obtain ⟨e, _, rfl⟩ := List.mem_map.1 hx; exact e.h
/-- a pack's last four bytes; what is ahead of them -/
theorem pack_end {A S : List UInt8} {m : Nat} {b : List UInt8} (hb : b = A ++ S ++ four m) (hS : S.length = m) : b.length = A.length + m + 4 ∧ b.getD (b.length - 4) 0 = UInt8.ofNat (m / 2 ^ 24) ∧ b.getD (b.length - 4 + 1) 0 = UInt8.ofNat (m / 2 ^ 16) ∧ b.getD (b.length - 4 + 2) 0 = UInt8.ofNat (m / 2 ^ 8) ∧ b.getD (b.length - 4 + 3) 0 = UInt8.ofNat m ∧
    (b.drop (b.length - 4 - m)).take (b.length - 4 - (b.length - 4 - m)) = S := by
  have h1 : b.length = A.length + m + 4 := by rw [hb]; simp [four]; omega
  have h2 : b.length - 4 = (A ++ S).length := by rw [List.length_append]; omega
  have h3 : ∀ j, b.getD (b.length - 4 + j) 0 = (four m).getD j 0 := fun j => by
    rw [h2, hb, List.getD_eq_getElem?_getD, List.getElem?_append_right (by omega), Nat.add_sub_cancel_left, ← List.getD_eq_getElem?_getD]
  refine ⟨h1, h3 0, h3 1, h3 2, h3 3, ?_⟩
  have e1 : b.length - 4 - m = A.length := by omega
  have e2 : b.length - 4 - A.length = S.length := by omega
  rw [e1, e2, hb, List.append_assoc, List.drop_left, List.take_left]

theorem beq_spec {v1 v2 : Value} {l m : List UInt8} {w : World} (h1 : Ro (Fs []) w (rdB v1 l)) (h2 : Ro (Fs []) w (rdB v2 m)) : Spec Tryd.prog 101 [v1, v2] w [] (fun _ : Unit => True) (fun _ => .bool (decide (l = m))) (fun _ => []) := by
  refine spec_of (n := 10) Tryd.func101 rfl rfl trivial trivial rfl ?_; refine s_r ?_; refine s_q rfl (y_assign rfl) ?_; refine s_n ?_; refine s_r ?_; refine s_q rfl (y_move rfl) ?_; refine s_q rfl (y_str (l := l) rfl rfl rfl rfl (fun w hw => Ro.rd h1 hw)) ?_; refine s_q rfl (y_move rfl) ?_; refine s_q rfl (y_str (l := m) rfl rfl rfl rfl (fun w hw => Ro.rd h2 hw)) ?_; refine s_q rfl (y_strEq (l := l) (m := m) rfl rfl) ?_
  refine s_q rfl (y_assign rfl) ?_; refine s_n ?_; refine tk_retc ?_
  exact tk_ret (()) (trivial) (.inl rfl) (r1 rfl rfl) (List.Sublist.refl _)
theorem gopen_spec {kind : UInt8} {bv : Value} {b r : List UInt8} {w : World} (hb : Ro (Fs []) w (rdB bv b)) (hbr : b = [72, 89, kind] ++ r) (hrl : r.length < 1099511627776) :
    Spec Tryd.prog 79 [B kind, bv] w [] (fun _ : Nat × Value => True) (fun x => .pointer (some ⟨x.1, 0, none⟩)) (fun x => [cel x.1 [x.2, I 0] 176, ownB x.2 r 5]) := by
  refine spec_of (n := 41) Tryd.func79 rfl rfl trivial trivial rfl ?_
  have hbl : b.length = r.length + 3 := by rw [hbr]; simp
  refine s_r ?_; refine s_q rfl (y_assign rfl) ?_; refine s_n ?_; refine s_r ?_; refine tk_act rfl ?_; refine a_slitN (vs := [B 72, B 89]) rfl (List.forall_mem_cons.2 ⟨rfl, (List.forall_mem_cons.2 ⟨rfl, (fun _ h => nomatch h)⟩)⟩) (EL26) rfl rfl (by decide) fun b7 => ?_; refine tk_act rfl ?_; refine a_convX (H1 := []) rfl Tryd.underlying26 Tryd.underlying5 rfl rfl ?_; refine s_q rfl (y_move rfl) ?_
  refine tk_act rfl ?_; refine a_slitN (vs := [B kind]) rfl (List.forall_mem_cons.2 ⟨rfl, (fun _ h => nomatch h)⟩) (EL26) rfl rfl (by decide) fun b10 => ?_; refine tk_celM (H1 := [_]) (f := B) (l := [72, 89]) (T := 5) rfl rfl (by decide) ?_; refine tk_act rfl ?_; refine a_appM (H1 := [_]) (f := B) (l := [72, 89]) (m := [kind]) rfl rfl EL26 rfl rfl (fun w hw => cel_rdE (o := 0) (m := 1) (cp := 1) (vs := [kind].map B) (hw.mem (.head _)) (rfl) (by first | rfl | exact lenP | (simp; omega)) lenP) (fun _ => rfl) ⟨lenP, lenP⟩ fun v11 => ?_
  refine tk_own1 (.tail _ (.head _)) fun hfv11 => ?_; refine tk_H [cel b10 ([B kind]) 5, own v11 ([72, 89, kind].length) ([72, 89, kind].map B) 5 1] (congrArg (fun z_ => [cel b10 ([B kind]) 5, z_]) (show own v11 (([72, 89] ++ [kind]).length) (([72, 89] ++ [kind]).map B) 5 1 = own v11 ([72, 89, kind].length) ([72, 89, kind].map B) 5 1 from ownM_cast rfl)) ?_; refine tk_own1 (.tail _ (.head _)) fun hf11 => ?_
  refine s_q rfl (y_assign rfl) ?_; refine s_n ?_; refine s_r ?_; refine s_q rfl (y_move rfl) ?_; refine s_q rfl (y_lenRN (n' := b.length) rfl hb.1 rfl (by first | rfl | (rw [List.length_map]; omega) | simp)) ?_; refine s_q rfl (y_move rfl) ?_; refine s_q rfl (y_lenRN (n' := 3) rfl hf11.choose_spec rfl (by first | rfl | (rw [List.length_map]; omega) | simp)) ?_; refine s_q rfl (y_minN (a := b.length) (b := 3) rfl rfl) ?_
  refine tk_re 16 (I ((min b.length 3 : Nat) : Int)) (I 3) rfl (congrArg I (by omega)) ?_; refine s_q rfl (y_assign rfl) ?_; refine s_n ?_; refine tk_seq ?_; refine tk_block ?_; refine tk_seq ?_; refine tk_drawH [cel b10 ([B kind]) 5, own v11 ([72, 89, kind].length) ([72, 89, kind].map B) 5 1] [] (by kernel_rfl) ?_; refine s_x 0 rfl (y_move rfl) ?_; refine s_x 1 rfl (y_move rfl) ?_; refine s_x 2 rfl (y_cutRBh (l := b) 3 rfl rfl hb.1 (by kernel_rfl) lenP rfl) ?_
  refine s_x 3 rfl (y_move rfl) ?_; refine s_x 4 rfl (y_move rfl) ?_; refine s_x 5 rfl (y_cutRBh (l := [72, 89, kind]) 3 rfl rfl hf11.choose_spec (by kernel_rfl) lenP rfl) ?_; refine tx_a 6 rfl (by kernel_rfl) rfl ?_; refine a_callv [] _ rfl (by kernel_rfl) rfl (fun w' hw' => beq_spec (l := b.take 3) (m := [72, 89, kind].take 3) (Ro.cutBh (Ro.call (H0 := []) hb hw') (hi := 3) lenP) (Ro.cutBh (Ro.own (H0 := []) hw' (.tail _ (.head _))) (hi := 3) lenP)) rfl fun _ _ => ?_
  refine tk_S (fun _ h => h.sub (List.Sublist.refl _)) ?_; refine tk_re 24 (.bool (decide (b.take 3 = [72, 89, kind].take 3))) (.bool true) rfl (bool_t (by rw [hbr]; rfl)) ?_; refine s_x 7 rfl (y_not rfl) ?_; refine s_x 8 rfl (y_assign rfl) ?_; refine tx_done (by kernel_rfl) ?_; refine tk_then ?_; refine tk_cond0 rfl ?_; refine s_r ?_; refine s_q rfl (y_move rfl) ?_; refine s_q rfl (y_move rfl) ?_
  refine s_q rfl (y_lenRN (n' := 3) rfl hf11.choose_spec rfl (by first | rfl | (rw [List.length_map]; omega) | simp)) ?_; refine s_q rfl ((y_lss rfl rfl).cast (bool_f (by decide))) ?_; refine s_q rfl (y_assign rfl) ?_; refine s_n ?_; refine tk_cond0 rfl ?_; refine tk_skip ?_; refine tk_in_normal ?_; refine tk_then ?_; refine s_r ?_; refine s_q rfl (y_move rfl) ?_; refine s_q rfl (y_move rfl) ?_; refine s_q rfl (y_cutRBl (l := b) 3 rfl rfl hb.1 (by kernel_rfl) lenP rfl) ?_
  refine tk_act rfl ?_; refine a_callv [] _ rfl (by kernel_rfl) rfl (fun w' hw' => clone_spec (l := b.drop 3) (Ro.cutBl (Ro.call (H0 := []) hb hw') (lo := 3) lenP) lenP) rfl fun v38 _ => ?_; refine tk_H [own v38 r.length (r.map B) 5 1, cel b10 ([B kind]) 5, own v11 ([72, 89, kind].length) ([72, 89, kind].map B) 5 1] (congrArg (fun z_ => [z_, cel b10 ([B kind]) 5, own v11 ([72, 89, kind].length) ([72, 89, kind].map B) 5 1]) (show own v38 ((b.drop 3).length) ((b.drop 3).map B) 5 1 = own v38 r.length (r.map B) 5 1 from ownM_cast (by rw [hbr]; rfl))) ?_
  refine tk_own1 (.head _) fun hf38 => ?_
  have hc38 := hf38.choose_spec.cells
  simp only [Value.cells] at hc38
  refine s_q rfl (y_build (v := .agg ([v38, I 0]).toArray) (vs := [(0, v38)]) rfl (run_build (zs := [Value.slice none 0 0, I 0]) (pl := [(0, 1), (1, 1)]) Tryd.underlying176 (fun _ => by kernel_rfl) (fun _ => by kernel_rfl) (by simp [fillL, Value.cells, hc38]))) ?_; refine tk_act rfl ?_; refine a_boxL (cs := [v38, I 0]) rfl rfl fun b40 => ?_; refine s_q rfl (y_assign rfl) ?_; refine s_n ?_; refine tk_retc ?_
  exact tk_ret ((b40, v38)) (trivial) (.inl rfl) (r1 rfl rfl) (.cons_cons _ (.cons_cons _ (List.nil_sublist _)))
theorem inum_spec {ib lim n : Nat} {v : Value} {b r : List UInt8} {w : World} (hbn : b = numL n ++ r) (hn : n < 4611686018427387904) (hlim : n ≤ lim) (hbl : b.length < 1099511627776) (hh : Pre w [cel ib [v, I 0] 176, ownB v b 5]) :
    Spec Tryd.prog 80 [.pointer (some ⟨ib, 0, none⟩), I (lim : Int)] w [cel ib [v, I 0] 176, ownB v b 5] (fun _ : Value => True) (fun _ => I (n : Int)) (fun x => [cel ib [x, I 0] 176, ownB x r 5]) := by
  refine spec_of (n := 81) Tryd.func80 rfl rfl hh.1 hh.2 rfl ?_; refine tk_own1 (.tail _ (.head _)) fun hfv => ?_; refine s_r ?_; refine s_q rfl (y_assign rfl) ?_; refine s_n ?_; refine tk_seq ?_; refine s_r ?_; refine s_q rfl (y_move rfl) ?_; refine s_q rfl (y_pnil rfl rfl rfl) ?_; refine s_q rfl (y_move rfl) ?_; refine s_g rfl (y_move rfl) ?_; refine s_g rfl (y_nilCheck rfl) ?_; refine s_g rfl (y_fldN (o := 0) 1 rfl (by kernel_rfl)) ?_
  refine s_g rfl (y_load rfl rfl (hc (o := 1) (.head _) (rfl))) ?_; refine s_g rfl ((y_neq rfl rfl).cast (bool_f (by decide))) ?_; refine s_q rfl (y_pick0 rfl rfl) ?_; refine s_n ?_; refine tk_cond0 rfl ?_; refine tk_skip ?_; refine tk_then ?_; refine s_r ?_; refine s_q rfl (y_assign rfl) ?_; refine s_n ?_; refine tk_seq ?_; refine s_r ?_; refine s_q rfl (y_move rfl) ?_; refine s_n ?_; refine tk_block ?_
  refine tk_loop (X := Nat × Nat × Nat) (fun (k, acc, m) => NAt b r n k acc m) (fun (k, acc, m) => [(0, .pointer (some ⟨ib, 0, none⟩)), (1, I ((lim : Nat) : Int)), (5, I ((acc : Nat) : Int)), (17, I ((k : Nat) : Int))]) (fun (k, acc, m) => [cel ib ([v, I 0]) 176, own v b.length (b.map B) 5 1]) (fun (k, acc, m) => 9 - k) ((0, 0, n)) (nat0 hbn hn) (by repeat (first | exact trivial | refine ⟨rfl, ?_⟩)) ((List.Sublist.refl _)) ?_
  rintro ⟨k, acc, m⟩ hI
  try dsimp only at hI ⊢
  have hk8 := hI.k8
  obtain ⟨hx1, hx2, hx3⟩ := nat_x hI
  obtain ⟨hy1, hy2, hy3⟩ := nat_b hI
  obtain ⟨ho1, ho2, ho3, ho4⟩ := nat_or hI
  have hpos := hI.pos
  refine s_r ?_; refine s_q rfl (y_lss rfl rfl) ?_; refine s_n ?_; refine tk_seq ?_; refine tk_condP rfl (fun ht18 => ?_) (fun ht18 => ?_)
  · skip
    refine tk_skip ?_; refine tk_then ?_; refine tk_seq ?_; refine tk_block ?_; refine s_r ?_; refine s_q rfl (y_move rfl) ?_; refine s_q rfl (y_assign rfl) ?_; refine s_n ?_; refine tk_seq ?_; refine s_r ?_; refine s_q rfl (y_move rfl) ?_; refine s_q rfl (y_move rfl) ?_; refine s_q rfl (y_nilCheck rfl) ?_; refine s_q rfl (y_fld0 (o := 0) rfl (by kernel_rfl)) ?_; refine s_q rfl (y_load rfl rfl (hc (o := 0) (.head _) (rfl))) ?_
    refine s_q rfl (y_lenRN (n' := b.length) rfl hfv.choose_spec rfl (by first | rfl | (rw [List.length_map]; omega) | simp)) ?_; refine tk_qe (.bool false) rfl rfl rfl (y_eql rfl rfl) (bool_f (by omega)) ?_; refine s_n ?_; refine tk_cond0 rfl ?_; refine tk_skip ?_; refine tk_then ?_; refine s_r ?_; refine s_q rfl (y_move rfl) ?_; refine s_q rfl (y_nilCheck rfl) ?_; refine s_q rfl (y_fld0 (o := 0) rfl (by kernel_rfl)) ?_
    refine s_q rfl (y_load rfl rfl (hc (o := 0) (.head _) (rfl))) ?_; refine s_q rfl (y_move rfl) ?_; refine s_q rfl (y_ixR (j := k) rfl rfl hfv.choose_spec lenP (by kernel_rfl)) ?_; refine s_q rfl (y_load rfl rfl (fun w hw => ((fun w hw => own_rdS (hw.mem (.tail _ (.head _)))) w hw).cell (gM (d := 0) lenP))) ?_; refine s_q rfl (y_assign rfl) ?_; refine s_n ?_; refine s_r ?_; refine s_q rfl (y_move rfl) ?_
    refine s_q rfl (y_move rfl) ?_; refine s_q rfl (y_and8 (a := b.getD k 0) (b := 127) rfl rfl) ?_; refine tk_qe (I ((m % 128 : Nat) : Int)) rfl rfl rfl (y_conv8i (a := (b.getD k 0) &&& 127) rfl rfl rfl) (by rw [hy1]) ?_; refine s_q rfl (y_move rfl) ?_; refine s_q rfl (y_mulN (a := 7) (b := k) rfl rfl (by omega)) ?_; refine s_q rfl (y_shlI (a := m % 128) (m := 7 * k) rfl rfl (by omega) (by omega)) ?_
    refine tk_qe (I ((acc + m % 128 * 2 ^ (7 * k) : Nat) : Int)) rfl rfl rfl (y_orN (a := acc) (b := (m % 128) * 2 ^ (7 * k)) rfl rfl ⟨ho3, ho2⟩) (by rw [ho1]) ?_; refine s_q rfl (y_assign rfl) ?_; refine s_n ?_; refine tk_seq ?_; refine s_r ?_; refine s_q rfl (y_move rfl) ?_; refine s_q rfl (y_geq rfl rfl) ?_; refine s_n ?_; refine tk_condP rfl (fun ht45 => ?_) (fun ht45 => ?_)
    · skip
      refine tk_exit ?_; refine tk_then_exit ?_; refine tk_in_hit ?_; refine tk_then ?_; refine tk_region ?_; refine s_q rfl (y_addN (a := k) (b := 1) rfl rfl (by omega)) ?_; refine s_q rfl (y_move rfl) ?_; refine tk_nil ?_
      exact tk_again ((k + 1, acc + m % 128 * 2 ^ (7 * k), m / 128)) (nat_next hI (hy2.1 (by omega))) (by dsimp only; omega) (by repeat (first | exact trivial | refine ⟨rfl, ?_⟩)) (List.Sublist.refl _)
    · skip
      have hm8 : m < 128 := Nat.lt_of_not_le (fun h => ht45 (by have := hy2.2 h; omega))
      have hfin := nat_fin hI hm8
      have hx0 := hy3 hm8
      refine tk_skip ?_; refine tk_then ?_; refine tk_seq ?_; refine tk_block ?_; refine tk_seq ?_; refine s_r ?_; refine s_q rfl (y_move rfl) ?_; refine tk_qs rfl rfl rfl (y_gtr rfl rfl) (fun hs13_1 => ?_) (fun hs13_1 => ?_)
      · skip
        refine s_q rfl (y_move rfl) ?_; refine s_g rfl (y_move rfl) ?_; refine tk_gqe (.bool false) rfl rfl rfl (y_eql rfl rfl) (bool_f (by omega)) ?_; refine s_q rfl (y_pick1 rfl rfl) ?_; refine s_q rfl (y_assign rfl) ?_; refine s_n ?_; refine tk_cond0 rfl ?_; refine tk_region ?_; refine s_q rfl (y_move rfl) ?_; refine tk_qe (.bool false) rfl rfl rfl (y_lss rfl rfl) (bool_f (by omega)) ?_; refine s_q rfl (y_move rfl) ?_
        refine s_g rfl (y_move rfl) ?_; refine tk_gqe (.bool false) rfl rfl rfl (y_geq rfl rfl) (bool_f (by omega)) ?_; refine s_q rfl (y_pick0 rfl rfl) ?_; refine s_q rfl (y_assign rfl) ?_; refine s_n ?_; refine tk_cond0 rfl ?_; refine s_r ?_; refine s_q rfl (y_move rfl) ?_; refine s_q rfl (y_move rfl) ?_; refine tk_qe (.bool false) rfl rfl rfl (y_gtr rfl rfl) (bool_f (by omega)) ?_; refine s_q rfl (y_assign rfl) ?_
        refine s_n ?_; refine tk_cond0 rfl ?_; refine tk_skip ?_; refine tk_in_normal ?_; refine tk_then ?_; refine s_r ?_; refine s_q rfl (y_move rfl) ?_; refine s_q rfl (y_move rfl) ?_; refine s_q rfl (y_nilCheck rfl) ?_; refine s_q rfl (y_fld0 (o := 0) rfl (by kernel_rfl)) ?_; refine s_q rfl (y_load rfl rfl (hc (o := 0) (.head _) (rfl))) ?_; refine s_q rfl (y_move rfl) ?_; refine s_q rfl (y_addN (a := k) (b := 1) rfl rfl (by omega)) ?_
        refine s_q rfl (y_cutRBl (l := b) (k + 1) rfl rfl hfv.choose_spec (by kernel_rfl) lenP rfl) ?_; refine s_q rfl (y_nilCheck rfl) ?_; refine s_q rfl (y_fld0 (o := 0) rfl (by kernel_rfl)) ?_; refine tk_act rfl ?_; refine a_storeE (H1 := []) (o := 0) (v := cutR v (k + 1) b.length) (cs' := [cutR v (k + 1) b.length, I 0]) rfl rfl (by kernel_rfl) (RdS.one (RdS.cutBl hfv.choose_spec (lo := k + 1) lenP)) rfl (by first | (simp; done) | (simp; omega)) (rfl) ?_
        refine s_n ?_; refine s_r ?_; refine s_q rfl (y_move rfl) ?_; refine s_q rfl (y_assign rfl) ?_; refine s_n ?_; refine tk_retc ?_; refine tk_in_ret ?_; refine tk_then_ret ?_; refine tk_then_ret ?_; refine tk_in_ret ?_; refine tk_then_ret ?_; refine tk_ownCut (H1 := [_]) (k + 1) rfl (by omega) ?_; refine tk_H [cel ib ([cutR v (k + 1) b.length, I 0]) 176, own ((cutR v (k + 1) b.length)) r.length (r.map B) 5 1] (congrArg (fun z_ => [cel ib ([cutR v (k + 1) b.length, I 0]) 176, z_]) (show own ((cutR v (k + 1) b.length)) ((b.drop (k + 1)).length) ((b.drop (k + 1)).map B) 5 1 = own ((cutR v (k + 1) b.length)) r.length (r.map B) 5 1 from ownM_cast (hx3 hm8).2)) ?_
        refine tk_re 4 (I ((acc + m % 128 * 2 ^ (7 * k) : Nat) : Int)) (I ((n : Nat) : Int)) rfl (congrArg I (by omega)) ?_
        exact tk_ret (cutR v (k + 1) b.length) (trivial) (.inl rfl) (r1 rfl rfl) (List.Sublist.refl _)
      · skip
        refine s_q rfl (y_move rfl) ?_; refine tk_gno rfl rfl rfl ?_; refine tk_gno rfl rfl rfl ?_; refine s_q rfl (y_pick0 rfl rfl) ?_; refine s_q rfl (y_assign rfl) ?_; refine s_n ?_; refine tk_cond0 rfl ?_; refine tk_region ?_; refine s_q rfl (y_move rfl) ?_; refine tk_qe (.bool false) rfl rfl rfl (y_lss rfl rfl) (bool_f (by omega)) ?_; refine s_q rfl (y_move rfl) ?_; refine s_g rfl (y_move rfl) ?_
        refine tk_gqe (.bool false) rfl rfl rfl (y_geq rfl rfl) (bool_f (by omega)) ?_; refine s_q rfl (y_pick0 rfl rfl) ?_; refine s_q rfl (y_assign rfl) ?_; refine s_n ?_; refine tk_cond0 rfl ?_; refine s_r ?_; refine s_q rfl (y_move rfl) ?_; refine s_q rfl (y_move rfl) ?_; refine tk_qe (.bool false) rfl rfl rfl (y_gtr rfl rfl) (bool_f (by omega)) ?_; refine s_q rfl (y_assign rfl) ?_; refine s_n ?_
        refine tk_cond0 rfl ?_; refine tk_skip ?_; refine tk_in_normal ?_; refine tk_then ?_; refine s_r ?_; refine s_q rfl (y_move rfl) ?_; refine s_q rfl (y_move rfl) ?_; refine s_q rfl (y_nilCheck rfl) ?_; refine s_q rfl (y_fld0 (o := 0) rfl (by kernel_rfl)) ?_; refine s_q rfl (y_load rfl rfl (hc (o := 0) (.head _) (rfl))) ?_; refine s_q rfl (y_move rfl) ?_; refine s_q rfl (y_addN (a := k) (b := 1) rfl rfl (by omega)) ?_
        refine s_q rfl (y_cutRBl (l := b) (k + 1) rfl rfl hfv.choose_spec (by kernel_rfl) lenP rfl) ?_; refine s_q rfl (y_nilCheck rfl) ?_; refine s_q rfl (y_fld0 (o := 0) rfl (by kernel_rfl)) ?_; refine tk_act rfl ?_; refine a_storeE (H1 := []) (o := 0) (v := cutR v (k + 1) b.length) (cs' := [cutR v (k + 1) b.length, I 0]) rfl rfl (by kernel_rfl) (RdS.one (RdS.cutBl hfv.choose_spec (lo := k + 1) lenP)) rfl (by first | (simp; done) | (simp; omega)) (rfl) ?_
        refine s_n ?_; refine s_r ?_; refine s_q rfl (y_move rfl) ?_; refine s_q rfl (y_assign rfl) ?_; refine s_n ?_; refine tk_retc ?_; refine tk_in_ret ?_; refine tk_then_ret ?_; refine tk_then_ret ?_; refine tk_in_ret ?_; refine tk_then_ret ?_; refine tk_ownCut (H1 := [_]) (k + 1) rfl (by omega) ?_; refine tk_H [cel ib ([cutR v (k + 1) b.length, I 0]) 176, own ((cutR v (k + 1) b.length)) r.length (r.map B) 5 1] (congrArg (fun z_ => [cel ib ([cutR v (k + 1) b.length, I 0]) 176, z_]) (show own ((cutR v (k + 1) b.length)) ((b.drop (k + 1)).length) ((b.drop (k + 1)).map B) 5 1 = own ((cutR v (k + 1) b.length)) r.length (r.map B) 5 1 from ownM_cast (hx3 hm8).2)) ?_
        refine tk_re 4 (I ((acc + m % 128 * 2 ^ (7 * k) : Nat) : Int)) (I ((n : Nat) : Int)) rfl (congrArg I (by omega)) ?_
        exact tk_ret (cutR v (k + 1) b.length) (trivial) (.inl rfl) (r1 rfl rfl) (List.Sublist.refl _)
  · skip
    exfalso; omega
theorem iraw_spec {ib n : Nat} {v : Value} {b f r : List UInt8} {w : World} (hbf : b = f ++ r) (hf : f.length = n) (hbl0 : b.length < 1099511627776) (hh : Pre w [cel ib [v, I 0] 176, ownB v b 5]) :
    Spec Tryd.prog 81 [.pointer (some ⟨ib, 0, none⟩), I (n : Int)] w [cel ib [v, I 0] 176, ownB v b 5] (fun _ : Value × Value => True) (fun x => x.2) (fun x => [cel ib [x.1, I 0] 176, ownB x.1 r 5, ownB x.2 f 5]) := by
  refine spec_of (n := 48) Tryd.func81 rfl rfl hh.1 hh.2 rfl ?_
  have hbl : b.length = n + r.length := by rw [hbf, List.length_append, hf]
  refine tk_own1 (.tail _ (.head _)) fun hfv => ?_; refine s_r ?_; refine s_q rfl (y_assign rfl) ?_; refine s_n ?_; refine tk_seq ?_; refine tk_block ?_; refine s_r ?_; refine s_q rfl (y_move rfl) ?_; refine s_q rfl (y_pnil rfl rfl rfl) ?_; refine s_q rfl (y_move rfl) ?_; refine s_g rfl (y_move rfl) ?_; refine s_g rfl (y_nilCheck rfl) ?_; refine s_g rfl (y_fldN (o := 0) 1 rfl (by kernel_rfl)) ?_; refine s_g rfl (y_load rfl rfl (hc (o := 1) (.head _) (rfl))) ?_
  refine s_g rfl ((y_neq rfl rfl).cast (bool_f (by decide))) ?_; refine s_q rfl (y_pick0 rfl rfl) ?_; refine s_q rfl (y_assign rfl) ?_; refine s_n ?_; refine tk_cond0 rfl ?_; refine s_r ?_; refine s_q rfl (y_move rfl) ?_; refine tk_qe (.bool false) rfl rfl rfl (y_lss rfl rfl) (bool_f (by omega)) ?_; refine s_q rfl (y_assign rfl) ?_; refine s_n ?_; refine tk_cond0 rfl ?_; refine s_r ?_; refine s_q rfl (y_move rfl) ?_
  refine s_q rfl (y_move rfl) ?_; refine s_q rfl (y_nilCheck rfl) ?_; refine s_q rfl (y_fld0 (o := 0) rfl (by kernel_rfl)) ?_; refine s_q rfl (y_load rfl rfl (hc (o := 0) (.head _) (rfl))) ?_; refine s_q rfl (y_lenRN (n' := b.length) rfl hfv.choose_spec rfl (by first | rfl | (rw [List.length_map]; omega) | simp)) ?_; refine tk_qe (.bool false) rfl rfl rfl (y_gtr rfl rfl) (bool_f (by omega)) ?_; refine s_q rfl (y_assign rfl) ?_
  refine s_n ?_; refine tk_cond0 rfl ?_; refine tk_skip ?_; refine tk_in_normal ?_; refine tk_then ?_; refine s_r ?_; refine s_q rfl (y_move rfl) ?_; refine s_q rfl (y_nilCheck rfl) ?_; refine s_q rfl (y_fld0 (o := 0) rfl (by kernel_rfl)) ?_; refine s_q rfl (y_load rfl rfl (hc (o := 0) (.head _) (rfl))) ?_; refine s_q rfl (y_move rfl) ?_; refine s_q rfl (y_cutRBh (l := b) n rfl rfl hfv.choose_spec (by kernel_rfl) lenP rfl) ?_
  refine tk_act rfl ?_; refine a_callv [] _ rfl (by kernel_rfl) rfl (fun w' hw' => clone_spec (l := b.take n) (Ro.cutBh (Ro.own (H0 := []) hw' (.tail _ (.head _))) (hi := n) lenP) lenP) rfl fun v37 _ => ?_; refine s_q rfl (y_assign rfl) ?_; refine s_n ?_; refine s_r ?_; refine s_q rfl (y_move rfl) ?_; refine s_q rfl (y_move rfl) ?_; refine s_q rfl (y_nilCheck rfl) ?_; refine s_q rfl (y_fld0 (o := 0) rfl (by kernel_rfl)) ?_
  refine s_q rfl (y_load rfl rfl (hc (o := 0) (.tail _ (.head _)) (rfl))) ?_; refine s_q rfl (y_move rfl) ?_; refine s_q rfl (y_cutRBl (l := b) n rfl rfl hfv.choose_spec (by kernel_rfl) lenP rfl) ?_; refine s_q rfl (y_nilCheck rfl) ?_; refine s_q rfl (y_fld0 (o := 0) rfl (by kernel_rfl)) ?_; refine tk_act rfl ?_; refine a_storeE (H1 := [_]) (o := 0) (v := cutR v n b.length) (cs' := [cutR v n b.length, I 0]) rfl rfl (by kernel_rfl) (RdS.one (RdS.cutBl hfv.choose_spec (lo := n) lenP)) rfl (by first | (simp; done) | (simp; omega)) (rfl) ?_
  refine s_n ?_; refine s_r ?_; refine s_q rfl (y_move rfl) ?_; refine s_q rfl (y_assign rfl) ?_; refine s_n ?_; refine tk_retc ?_; refine tk_ownCut (H1 := [_, _]) n rfl (by omega) ?_; refine tk_H [own v37 ((b.take n).length) ((b.take n).map B) 5 1, cel ib ([cutR v n b.length, I 0]) 176, own (cutR v n b.length) r.length (r.map B) 5 1] (congrArg (fun z_ => [own v37 ((b.take n).length) ((b.take n).map B) 5 1, cel ib ([cutR v n b.length, I 0]) 176, z_]) (show own (cutR v n b.length) ((b.drop n).length) ((b.drop n).map B) 5 1 = own (cutR v n b.length) r.length (r.map B) 5 1 from ownM_cast (by rw [hbf, ← hf, List.drop_left]))) ?_
  refine tk_H [own v37 f.length (f.map B) 5 1, cel ib ([cutR v n b.length, I 0]) 176, own (cutR v n b.length) r.length (r.map B) 5 1] (congrArg (fun z_ => [z_, cel ib ([cutR v n b.length, I 0]) 176, own (cutR v n b.length) r.length (r.map B) 5 1]) (show own v37 ((b.take n).length) ((b.take n).map B) 5 1 = own v37 f.length (f.map B) 5 1 from ownM_cast (by rw [hbf, ← hf, List.take_left]))) ?_; refine tk_perm _ mv2 ?_
  refine tk_perm _ mv2 ?_
  exact tk_ret ((cutR v n b.length, v37)) (trivial) (.inl rfl) (r1 rfl rfl) (List.Sublist.refl _)
theorem ierr_spec {ib : Nat} {v : Value} {w : World} (hh : Pre w [cel ib [v, I 0] 176]) : Spec Tryd.prog 82 [.pointer (some ⟨ib, 0, none⟩)] w [cel ib [v, I 0] 176] (fun _ : Unit => True) (fun _ => I 0) (fun _ => [cel ib [v, I 0] 176]) := by
  refine spec_of (n := 9) Tryd.func82 rfl rfl hh.1 hh.2 rfl ?_; refine s_r ?_; refine s_q rfl (y_assign rfl) ?_; refine s_n ?_; refine tk_seq ?_; refine s_r ?_; refine s_q rfl (y_move rfl) ?_; refine s_q rfl (y_pnil rfl rfl rfl) ?_; refine s_n ?_; refine tk_cond0 rfl ?_; refine tk_skip ?_; refine tk_then ?_; refine s_r ?_; refine s_q rfl (y_move rfl) ?_; refine s_q rfl (y_nilCheck rfl) ?_; refine s_q rfl (y_fldN (o := 0) 1 rfl (by kernel_rfl)) ?_
  refine s_q rfl (y_load rfl rfl (hc (o := 1) (.head _) (rfl))) ?_; refine s_q rfl (y_assign rfl) ?_; refine s_n ?_; refine tk_retc ?_
  exact tk_ret (()) (trivial) (.inl rfl) (r1 rfl rfl) (List.Sublist.refl _)
theorem iend_spec {ib : Nat} {v : Value} {b : List UInt8} {w : World} (hb0 : b = []) (hh : Pre w [cel ib [v, I 0] 176, ownB v b 5]) : Spec Tryd.prog 83 [.pointer (some ⟨ib, 0, none⟩)] w [cel ib [v, I 0] 176, ownB v b 5] (fun _ : Unit => True) (fun _ => I 0) (fun _ => [cel ib [v, I 0] 176, ownB v b 5]) := by
  refine spec_of (n := 17) Tryd.func83 rfl rfl hh.1 hh.2 rfl ?_
  subst hb0
  refine tk_own1 (.tail _ (.head _)) fun hfv => ?_; refine s_r ?_; refine s_q rfl (y_assign rfl) ?_; refine s_n ?_; refine tk_seq ?_; refine s_r ?_; refine s_q rfl (y_move rfl) ?_; refine s_q rfl (y_pnnil rfl rfl rfl) ?_; refine s_q rfl (y_move rfl) ?_; refine s_g rfl (y_move rfl) ?_; refine s_g rfl (y_nilCheck rfl) ?_; refine s_g rfl (y_fld0 (o := 0) rfl (by kernel_rfl)) ?_; refine s_g rfl (y_load rfl rfl (hc (o := 0) (.head _) (rfl))) ?_
  refine s_g rfl (y_lenRN (n' := 0) rfl hfv.choose_spec rfl (by first | rfl | (rw [List.length_map]; omega) | simp)) ?_; refine s_g rfl ((y_gtr rfl rfl).cast (bool_f (by decide))) ?_; refine s_q rfl (y_pick1 rfl rfl) ?_; refine s_n ?_; refine tk_cond0 rfl ?_; refine tk_skip ?_; refine tk_then ?_; refine s_r ?_; refine s_q rfl (y_move rfl) ?_; refine tk_act rfl ?_; refine a_callv [] _ rfl (by kernel_rfl) rfl (fun w' hw' => ierr_spec (ib := ib) (v := v) (St.pre hw')) rfl fun _ _ => ?_
  refine s_q rfl (y_assign rfl) ?_; refine s_n ?_; refine tk_retc ?_
  exact tk_ret (()) (trivial) (.inl rfl) (r1 rfl rfl) (List.Sublist.refl _)
end Go.Proofs.YtfofkjajlfphjaaDoor

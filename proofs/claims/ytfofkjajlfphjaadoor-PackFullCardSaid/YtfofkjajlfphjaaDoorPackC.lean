/- pack: walks over names, the search, the reference's write, entries, rings. -/
import Derived.Test.YtfofkjajlfphjaaDoorPackB
import Derived.Test.YtfofkjajlfphjaaDoorKeyG
import Derived.Test.YtfofkjajlfphjaaDoorWaxB
set_option linter.unusedSimpArgs false
set_option linter.unusedVariables false
namespace Go.Proofs.YtfofkjajlfphjaaDoor
open Go Go.RowKit
set_option maxRecDepth 100000
def rg (n k : UInt8) : List UInt8 := [n, k, 0, 0, 0, 0, 0, 0, 0, 0, 0, 0, 0, 0, 0, 0, 0, 0, 0, 0, 0, 0, 0, 0, 0, 0, 0, 0, 0, 0, 0, 0]
@[simp] theorem rg_len {n k : UInt8} : (rg n k).length = 32 := rfl
theorem has_at {l : List Ent} {il : List UInt8} {i : Nat} (h : i < l.length) (e : (l.getD i dEnt).id = il) : hasE l il = true := List.any_eq_true.2 ⟨_, getD_mem h, by simpa using e⟩
theorem has_none {l : List Ent} {il : List UInt8} (h : ∀ j, j < l.length → ¬ (l.getD j dEnt).id = il) : hasE l il = false := by
  rw [hasE, List.any_eq_false]
  intro x hx
  obtain ⟨j, hj, rfl⟩ := List.getElem_of_mem hx
  have := h j hj
  rw [List.getD_eq_getElem?_getD, List.getElem?_eq_getElem hj] at this
  simpa using this
theorem take_snoc {α : Type} {l : List α} {d : α} {i : Nat} (h : i < l.length) : l.take i ++ [l.getD i d] = l.take (i + 1) := by
  have e : l.getD i d = l[i] := by rw [List.getD_eq_getElem?_getD, List.getElem?_eq_getElem h]; rfl
  rw [e, List.take_add_one, List.getElem?_eq_getElem h]; rfl
theorem list_ext {α : Type} {l m : List α} {d : α} (h : l.length = m.length) (hj : ∀ j, j < l.length → l.getD j d = m.getD j d) : l = m := by
  apply List.ext_getElem h
  intro i h1 h2
  have := hj i h1
  rw [List.getD_eq_getElem?_getD, List.getElem?_eq_getElem h1, List.getD_eq_getElem?_getD, List.getElem?_eq_getElem h2] at this
  simpa using this
theorem EL70 : elB Tryd.prog 70 91 35 56 := ⟨by kernel_rfl, _, _, rfl, rfl, rfl, rfl, rfl, by decide⟩
theorem EL79 : elB Tryd.prog 79 130 35 56 := ⟨by kernel_rfl, _, _, rfl, rfl, rfl, rfl, rfl, by decide⟩
theorem eqc_id {d : Nat} : EqC Tryd.prog (d + 2) 65 32 (fun xs => ∃ l : List UInt8, l.length = 32 ∧ xs = l.map B) := eqc_arr Tryd.underlying65 (by kernel_rfl) Tryd.underlying5 (by kernel_rfl)
theorem ent_fe : ∀ xs : List Value, (∃ e, xs = entC e) → (∃ l : List UInt8, l.length = 32 ∧ xs.take 32 = l.map B) ∧ (∃ z : Int, (xs.drop 32).take 1 = [I z]) ∧ (∃ z : Int, ((xs.drop 32).drop 1).take 1 = [I z]) ∧ (∃ z : Int, (((xs.drop 32).drop 1).drop 1).take 1 = [I z]) ∧ (((xs.drop 32).drop 1).drop 1).drop 1 = [] := by
  rintro _ ⟨e, rfl⟩
  have h : (entC e).drop 32 = [I ((e.kind : Nat) : Int), I ((e.off : Nat) : Int), I ((e.len : Nat) : Int)] := List.drop_left' (by simp [e.h])
  rw [h]
  exact ⟨⟨e.id, e.h, ent_id e⟩, ⟨_, rfl⟩, ⟨_, rfl⟩, ⟨_, rfl⟩, rfl⟩
theorem eqc_rent : EqC Tryd.prog 10000 130 35 (fun xs => ∃ e, xs = entC e) :=
  (eqc_struct (d := 9999) (by kernel_rfl) Tryd.underlying130 (by kernel_rfl) (.cons (k := 32) rfl (by decide) (eqc_id (d := 9997)) (.cons (k := 1) rfl (by decide) (eqc_int (d := 9998) Tryd.underlying3) (.cons (k := 1) rfl (by decide) (eqc_int (d := 9998) Tryd.underlying3) (.cons (k := 1) rfl (by decide) (eqc_int (d := 9998) Tryd.underlying3) (.nil _)))))).weak ent_fe
theorem eqc_ent : EqC Tryd.prog 10000 91 35 (fun xs => ∃ e, xs = entC e) :=
  (eqc_struct (d := 9999) (by kernel_rfl) Tryd.underlying91 (by kernel_rfl) (.cons (k := 32) rfl (by decide) (eqc_id (d := 9997)) (.cons (k := 1) rfl (by decide) (eqc_int (d := 9998) Tryd.underlying3) (.cons (k := 1) rfl (by decide) (eqc_int (d := 9998) Tryd.underlying3) (.cons (k := 1) rfl (by decide) (eqc_int (d := 9998) Tryd.underlying3) (.nil _)))))).weak ent_fe
attribute [local irreducible] sumL keyedL hexL hidL markL sealL sealF openF tapeL tapeN
theorem id_spec {hk mk nk L : List UInt8} {kind : UInt8} {v : Value} {ps : List Sb} {w : World} (h3 : hk.length = 32 ∧ mk.length = 32 ∧ nk.length = 32) (hv : Ro (Fs []) w (rd v (ps.map Prod.fst))) (hp : ∀ p ∈ ps, Ro (Fs []) w (rdB p.1 p.2)) (hL : ps.flatMap Prod.snd = L) (hb : L.length < 4294967296 ∧ ps.length < 4294967296) (hg : Ro (Fs []) w glob) :
    Spec Tryd.prog 45 [.agg (hk.map B ++ (mk.map B ++ nk.map B)).toArray, B kind, v] w [] (fun _ : Unit => True) (fun _ => Ag (idF nk kind L)) (fun _ => []) := by
  refine spec_of (n := 15) Tryd.func45 rfl rfl trivial trivial rfl ?_
  obtain ⟨hk32, mk32, nk32⟩ := h3
  refine tk_seq ?_
  refine tk_region ?_
  refine tk_act rfl ?_; refine a_boxL (cs := hk.map B ++ (mk.map B ++ (nk.map B))) rfl rfl fun b3 => ?_
  refine tk_act rfl ?_; refine a_allocL (cs := (List.replicate 32 0).map B) (by kernel_rfl) rfl fun b6 => ?_
  refine tk_nil ?_
  refine tk_then ?_
  refine tk_seq ?_
  refine tk_drawH [cel b3 (hk.map B ++ (mk.map B ++ (nk.map B))) 49] [] (by kernel_rfl) ?_
  refine tx_q 0 rfl (by kernel_rfl) rfl rfl rfl (fun _ _ _ h => h) (y_fldN (o := 0) 64 rfl (by kernel_rfl)) ?_
  refine tx_q 1 rfl (by kernel_rfl) rfl rfl rfl (fun _ _ _ h => h) (y_cutA (m := 32) (sz := 1) rfl (by kernel_rfl)) ?_
  refine tx_q 2 rfl (by kernel_rfl) rfl rfl rfl (fun _ _ _ h => h) (y_move rfl) ?_
  refine tx_q 5 rfl (by kernel_rfl) rfl rfl rfl (fun _ _ _ h => h) (y_move rfl) ?_
  refine tx_a 3 rfl (by kernel_rfl) rfl ?_; refine a_slitN (vs := [B kind]) rfl (List.forall_mem_cons.2 ⟨rfl, (fun _ h => nomatch h)⟩) (EL26) rfl rfl (by decide) fun b10 => ?_
  refine tk_S (fun _ h => h.sub (.cons _ (.cons _ (List.Sublist.refl _)))) ?_
  refine tx_more [cel b10 ([B kind]) 5, cel b3 (hk.map B ++ (mk.map B ++ (nk.map B))) 49] (fun _ h => h.sub (.cons _ (List.Sublist.refl _))) (fun _ h => h.sub (.cons_cons _ (.cons _ (List.Sublist.refl _)))) ?_
  refine tx_a 4 rfl (by kernel_rfl) rfl ?_; refine a_slitN (vs := [.slice (some ⟨b10, 0, none⟩) 1 1]) rfl (List.forall_mem_cons.2 ⟨rfl, (fun _ h => nomatch h)⟩) (EL45) rfl rfl (by decide) fun b11 => ?_
  refine tk_S (fun _ h => h.sub (.cons _ (.cons_cons _ (.cons _ (List.Sublist.refl _))))) ?_
  refine tk_celM (H1 := []) (f := Prod.fst) (l := [((.slice (some ⟨b10, 0, none⟩) 1 1 : Value), ([kind] : List UInt8))]) (T := 26) rfl rfl (by simp [maxLen]) ?_
  refine tx_a 6 rfl (by kernel_rfl) rfl ?_; refine a_appendR (H1 := []) (n := [((.slice (some ⟨b10, 0, none⟩) 1 1 : Value), ([kind] : List UInt8))].length) (xs := [((.slice (some ⟨b10, 0, none⟩) 1 1 : Value), ([kind] : List UInt8))].map Prod.fst) (news := ps.map Prod.fst) rfl rfl EL45 rfl rfl (fun w hw => Ro.rd hv hw) (fun u hu => by obtain ⟨q, hq, rfl⟩ := List.mem_map.1 hu; exact (hp q hq).1.one) (by simp; omega) fun v13 => ?_
  refine tk_S (fun _ h => h.sub (.cons _ (.cons_cons _ (.cons _ (List.Sublist.refl _))))) ?_
  refine tx_more [own v13 ([((.slice (some ⟨b10, 0, none⟩) 1 1 : Value), ([kind] : List UInt8))].length + (ps.map Prod.fst).length) ([((.slice (some ⟨b10, 0, none⟩) 1 1 : Value), ([kind] : List UInt8))].map Prod.fst ++ ps.map Prod.fst) 26 1, cel b10 ([B kind]) 5, cel b3 (hk.map B ++ (mk.map B ++ (nk.map B))) 49] (fun _ h => h.sub (.cons _ (List.Sublist.refl _))) (fun _ h => h.sub (.cons_cons _ (.cons_cons _ (.cons _ (List.Sublist.refl _))))) ?_
  refine tx_a 7 rfl (by kernel_rfl) rfl ?_; refine a_callv [] _ rfl (by kernel_rfl) rfl (fun w' hw' => keyed_spec (k := nk) (ps := ((.slice (some ⟨b10, 0, none⟩) 1 1 : Value), ([kind] : List UInt8)) :: ps) (L := kind :: L) (Ro.cel (H0 := []) (b := b3) (o := 64) (m := 32) (cp := 32) (vs := nk.map B) hw' (.tail _ (.tail _ (.tail _ (.head _)))) (dsA (k := 32) (i := 32) (by rw [List.length_map]; exact hk32) (by omega) (dsA (k := 32) (i := 0) (by rw [List.length_map]; exact mk32) (by omega) (dsW))) (by first | rfl | exact lenP | (simp; omega)) lenP) (Ro.own (H0 := []) hw' (.head _)) (List.forall_mem_cons.2 ⟨(Ro.cel (H0 := []) (b := b10) (o := 0) (m := 1) (cp := 1) (vs := [kind].map B) hw' (.tail _ (.head _)) (rfl) (by first | rfl | exact lenP | (simp; omega)) lenP), fun p hp0 => (hp p hp0).call hw'⟩) (by simp [hL]) ⟨lenP, by simp; omega, by simp; omega⟩ (hg.call hw')) rfl fun _ _ => ?_
  refine tk_S (fun _ h => h.sub (.cons_cons _ (.cons_cons _ (.cons _ (List.Sublist.refl _))))) ?_
  refine tx_a 8 rfl (by kernel_rfl) rfl ?_; refine a_storeW (H1 := [_, _]) (vs := (idF nk kind L).map B) 32 rfl rfl (by kernel_rfl) rfl ⟨lenP, lenP⟩ oneB ?_
  refine tk_S (fun _ h => h.sub (.cons_cons _ (.cons_cons _ (.cons _ (List.Sublist.refl _))))) ?_
  refine tx_done (by kernel_rfl) ?_
  refine tk_then ?_
  refine tk_retc ?_
  exact tk_ret (()) (trivial) (.inl rfl) (rc (vs := (idF nk kind L).map B) rfl rfl (by rw [List.length_map, idF_len]; kernel_rfl) (hcw (.tail _ (.tail _ (.head _))))) (List.nil_sublist _)
theorem docid_spec {hk mk nk l : List UInt8} {kind : UInt8} {w : World} (h3 : hk.length = 32 ∧ mk.length = 32 ∧ nk.length = 32) (hl : l.length < 4294967296) :
    Spec Tryd.prog 74 [.agg (hk.map B ++ (mk.map B ++ nk.map B)).toArray, B kind, Str l] w [] (fun _ : Unit => True) (fun _ => Ag (idF nk kind l)) (fun _ => []) := by
  refine spec_of (n := 17) Tryd.func74 rfl rfl trivial trivial rfl ?_
  obtain ⟨hk32, mk32, nk32⟩ := h3
  refine tk_seq ?_
  refine tk_region ?_
  refine tk_act rfl ?_; refine a_boxL (cs := hk.map B ++ (mk.map B ++ (nk.map B))) rfl rfl fun b3 => ?_
  refine tk_act rfl ?_; refine a_allocL (cs := (List.replicate 32 0).map B) (by kernel_rfl) rfl fun b6 => ?_
  refine tk_nil ?_
  refine tk_then ?_
  refine tk_seq ?_
  refine tk_drawH [cel b3 (hk.map B ++ (mk.map B ++ (nk.map B))) 54] [] (by kernel_rfl) ?_
  refine tx_q 0 rfl (by kernel_rfl) rfl rfl rfl (fun _ _ _ h => h) (y_fldN (o := 0) 64 rfl (by kernel_rfl)) ?_
  refine tx_q 1 rfl (by kernel_rfl) rfl rfl rfl (fun _ _ _ h => h) (y_cutA (m := 32) (sz := 1) rfl (by kernel_rfl)) ?_
  refine tx_l 2 rfl (by kernel_rfl) (by kernel_rfl) rfl rfl rfl (fun _ _ _ h => h) (fun _ h => h.sub (.cons _ (List.Sublist.refl _))) (y_str (l := nk) rfl rfl rfl rfl (fun w hw => cel_rdE (o := 64) (m := 32) (cp := 32) (vs := nk.map B) (hw.mem (.head _)) (dsA (k := 32) (i := 32) (by rw [List.length_map]; exact hk32) (by omega) (dsA (k := 32) (i := 0) (by rw [List.length_map]; exact mk32) (by omega) (dsW))) (by first | rfl | exact lenP | (simp; omega)) lenP)) ?_
  refine tx_q 3 rfl (by kernel_rfl) rfl rfl rfl (fun _ _ _ h => h) (y_move rfl) ?_
  refine tx_q 6 rfl (by kernel_rfl) rfl rfl rfl (fun _ _ _ h => h) (y_move rfl) ?_
  refine tx_a 4 rfl (by kernel_rfl) rfl ?_; refine a_slitN (vs := [B kind]) rfl (List.forall_mem_cons.2 ⟨rfl, (fun _ h => nomatch h)⟩) (EL26) rfl rfl (by decide) fun b11 => ?_
  refine tk_S (fun _ h => h.sub (.cons _ (.cons _ (List.Sublist.refl _)))) ?_
  refine tx_more [cel b11 ([B kind]) 5, cel b3 (hk.map B ++ (mk.map B ++ (nk.map B))) 54] (fun _ h => h.sub (.cons _ (List.Sublist.refl _))) (fun _ h => h.sub (.cons_cons _ (.cons _ (List.Sublist.refl _)))) ?_
  refine tx_l 5 rfl (by kernel_rfl) (by kernel_rfl) rfl rfl rfl (fun _ _ _ h => h) (fun _ h => h.sub (.cons_cons _ (.cons _ (List.Sublist.refl _)))) (y_str (l := [kind]) rfl rfl rfl rfl (fun w hw => cel_rdE (o := 0) (m := 1) (cp := 1) (vs := [kind].map B) (hw.mem (.head _)) (rfl) (by first | rfl | exact lenP | (simp; omega)) lenP)) ?_
  refine tx_q 7 rfl (by kernel_rfl) rfl rfl rfl (fun _ _ _ h => h) (y_catT (l := [kind]) (m := l) rfl rfl lenP) ?_
  refine tx_a 8 rfl (by kernel_rfl) rfl ?_; refine a_callv [] _ rfl (by kernel_rfl) rfl (fun w' hw' => rkeyed_spec (k := nk) (l := [kind] ++ l) lenP lenP) rfl fun _ _ => ?_
  refine tk_S (fun _ h => h.sub (.cons_cons _ (.cons _ (List.Sublist.refl _)))) ?_
  refine tx_a 9 rfl (by kernel_rfl) rfl ?_; refine a_callv [] _ rfl (by kernel_rfl) rfl (fun w' hw' => rofL_spec (l := keyedL nk ([kind] ++ l)) lenP) rfl fun _ _ => ?_
  refine tk_S (fun _ h => h.sub (.cons_cons _ (.cons _ (List.Sublist.refl _)))) ?_
  refine tk_re 16 (.agg ((keyedL nk ([kind] ++ l)).map B).toArray) (.agg ((idF nk kind l).map B).toArray) rfl (rfl) ?_
  refine tx_a 10 rfl (by kernel_rfl) rfl ?_; refine a_storeW (H1 := [_]) (vs := (idF nk kind l).map B) 32 rfl rfl (by kernel_rfl) rfl ⟨lenP, lenP⟩ oneB ?_
  refine tk_S (fun _ h => h.sub (.cons_cons _ (.cons _ (List.Sublist.refl _)))) ?_
  refine tx_done (by kernel_rfl) ?_
  refine tk_then ?_
  refine tk_retc ?_
  exact tk_ret (()) (trivial) (.inl rfl) (rc (vs := (idF nk kind l).map B) rfl rfl (by rw [List.length_map, idF_len]; kernel_rfl) (hcw (.tail _ (.head _)))) (List.nil_sublist _)
theorem name_spec {v : Value} {l : List UInt8} {w : World} (hv : Ro (Fs []) w (rdB v l)) (hl : l.length < 4294967296) (hg : Ro (Fs []) w glob) : Spec Tryd.prog 41 [v] w [] (fun _ : Unit => True) (fun _ => Str (nameL l)) (fun _ => []) := by
  refine spec_of (n := 9) Tryd.func41 rfl rfl trivial trivial rfl ?_
  have hx64 : (hexL (sumL l)).length = 64 := by rw [hexL_len, sumL_len]
  refine tk_seq ?_
  refine tk_region ?_
  refine tk_q rfl rfl rfl (y_assign rfl) ?_
  refine tk_nil ?_
  refine tk_then ?_
  refine tk_seq ?_
  refine tk_region ?_
  refine tk_q rfl rfl rfl (y_move rfl) ?_
  refine tk_act rfl ?_; refine a_slitN (vs := [v]) rfl (List.forall_mem_cons.2 ⟨(RdS.one hv.1), (fun _ h => nomatch h)⟩) (EL45) rfl rfl (by decide) fun b4 => ?_
  refine tk_act rfl ?_; refine a_callv [] _ rfl (by kernel_rfl) rfl (fun w' hw' => of_spec (ps := [(v, l)]) (L := l) (Ro.cel (vs := [v]) hw' (.head _) (by first | rfl | simp) rfl (by decide)) (List.forall_mem_cons.2 ⟨(Ro.call (H0 := []) hv hw'), (fun _ h => nomatch h)⟩) (by simp) lenP lenP (hg.call hw')) rfl fun _ _ => ?_
  refine tk_act rfl ?_; refine a_callv [] _ rfl (by kernel_rfl) rfl (fun w' hw' => text_spec (l := sumL l) sumL_len) rfl fun _ _ => ?_
  refine tk_q rfl rfl rfl (y_cutTh (l := hexL (sumL l)) (hi := 40) rfl rfl rfl (by omega)) ?_
  refine tk_q rfl rfl rfl (y_catT (l := [112, 47]) (m := (hexL (sumL l)).take 40) rfl rfl lenP) ?_
  refine tk_re 8 (Str ([112, 47] ++ ((hexL (sumL l)).take 40))) (Str (nameL l)) rfl (rfl) ?_
  refine tk_q rfl rfl rfl (y_assign rfl) ?_
  refine tk_nil ?_
  refine tk_then ?_
  refine tk_retc ?_
  exact tk_ret (()) (trivial) (.inl rfl) (r1 rfl rfl) (List.nil_sublist _)
theorem rname_spec {l : List UInt8} {w : World} (hl : l.length < 4294967296) : Spec Tryd.prog 73 [Str l] w [] (fun _ : Unit => True) (fun _ => Str (nameL l)) (fun _ => []) := by
  refine spec_of (n := 8) Tryd.func73 rfl rfl trivial trivial rfl ?_
  have hx64 : (hexL (sumL l)).length = 64 := by rw [hexL_len, sumL_len]
  refine tk_seq ?_
  refine tk_region ?_
  refine tk_q rfl rfl rfl (y_assign rfl) ?_
  refine tk_nil ?_
  refine tk_then ?_
  refine tk_seq ?_
  refine tk_region ?_
  refine tk_q rfl rfl rfl (y_move rfl) ?_
  refine tk_act rfl ?_; refine a_callv [] _ rfl (by kernel_rfl) rfl (fun w' hw' => rof_spec (l := l) lenP) rfl fun _ _ => ?_
  refine tk_act rfl ?_; refine a_callv [] _ rfl (by kernel_rfl) rfl (fun w' hw' => rtext_spec (l := sumL l) lenP) rfl fun _ _ => ?_
  refine tk_q rfl rfl rfl (y_cutTh (l := hexL (sumL l)) (hi := 40) rfl rfl rfl (by omega)) ?_
  refine tk_q rfl rfl rfl (y_catT (l := [112, 47]) (m := (hexL (sumL l)).take 40) rfl rfl lenP) ?_
  refine tk_re 7 (Str ([112, 47] ++ ((hexL (sumL l)).take 40))) (Str (nameL l)) rfl (rfl) ?_
  refine tk_q rfl rfl rfl (y_assign rfl) ?_
  refine tk_nil ?_
  refine tk_then ?_
  refine tk_retc ?_
  exact tk_ret (()) (trivial) (.inl rfl) (r1 rfl rfl) (List.Sublist.refl _)
theorem addf_spec {e : Ent} {ib : Nat} {l : List UInt8} {w : World} (hl : l.length = 32) (hh : Pre w [cel ib (l.map B) 65]) :
    Spec Tryd.prog 62 [.agg (entC e).toArray, .pointer (some ⟨ib, 0, none⟩)] w [cel ib (l.map B) 65] (fun _ : Unit => True) (fun _ => .bool (decide (e.id = l))) (fun _ => [cel ib (l.map B) 65]) := by
  refine spec_of (n := 8) Tryd.func62 rfl rfl hh.1 hh.2 rfl ?_
  have heh := e.h
  refine tk_seq ?_
  refine tk_region ?_
  refine tk_act rfl ?_; refine a_boxL (cs := ((e).id).map B ++ ([I (((e).kind : Nat) : Int), I (((e).off : Nat) : Int), I (((e).len : Nat) : Int)])) rfl rfl fun b2 => ?_
  refine tk_q rfl rfl rfl (y_assign rfl) ?_
  refine tk_nil ?_
  refine tk_then ?_
  refine tk_seq ?_
  refine tk_region ?_
  refine tk_q rfl rfl rfl (y_fld0 (o := 0) rfl (by kernel_rfl)) ?_
  refine tk_q rfl rfl rfl (y_loadA (vs := ((e).id).map B) 32 rfl (by kernel_rfl) lenP (hseg (pre := ([] : List Value)) (post := [I (((e).kind : Nat) : Int), I (((e).off : Nat) : Int), I (((e).len : Nat) : Int)]) (.head _) lenP (by simp))) ?_
  refine tk_q rfl rfl rfl (y_loadA 32 rfl (by kernel_rfl) lenP (hcw (.tail _ (.head _)))) ?_
  refine tk_q rfl rfl rfl (y_agEq (l := (e).id) (m := l) rfl rfl Tryd.underlying65 Tryd.underlying5 (by kernel_rfl) (by kernel_rfl) ⟨(e).h, hl⟩) ?_
  refine tk_q rfl rfl rfl (y_assign rfl) ?_
  refine tk_nil ?_
  refine tk_then ?_
  refine tk_retc ?_
  exact tk_ret (()) (trivial) (.inl rfl) (r1 rfl rfl) (.cons _ (List.Sublist.refl _))
theorem indexf_spec {v : Value} {l : List Ent} {ib : Nat} {il : List UInt8} {w : World} (hl : il.length = 32) (hn : l.length < 1000000) (hh : Pre w [ownA entC 35 v l 91, cel ib (il.map B) 65]) :
    Spec Tryd.prog 96 [v, .func (.func 62) #[] #[.pointer (some ⟨ib, 0, none⟩)]] w [ownA entC 35 v l 91, cel ib (il.map B) 65] (fun r : Int => 0 ≤ r ↔ hasE l il = true) (fun r => I r) (fun _ => [ownA entC 35 v l 91, cel ib (il.map B) 65]) := by
  refine spec_of (n := 19) Tryd.func96 rfl rfl hh.1 hh.2 rfl ?_
  refine tk_ownA (.head _) fun hfe => ?_
  refine tk_seq ?_
  refine tk_region ?_
  refine tk_q rfl rfl rfl (y_assign rfl) ?_
  refine tk_nil ?_
  refine tk_then ?_
  refine tk_seq ?_
  refine tk_seq ?_
  refine tk_region ?_
  refine tk_q rfl rfl rfl (y_move rfl) ?_
  refine tk_q rfl rfl rfl (y_lenE rfl hfe.choose_spec rfl) ?_
  refine tk_q rfl rfl rfl (y_move rfl) ?_
  refine tk_nil ?_
  refine tk_then ?_
  refine tk_block ?_
  refine tk_loop (X := Nat) (fun i => i ≤ l.length ∧ ∀ j, j < i → ¬ (l.getD j dEnt).id = il) (fun i => [(0, v), (1, .func (.func 62) #[] #[.pointer (some ⟨ib, 0, none⟩)]), (7, I ((l.length : Nat) : Int)), (8, I ((i : Nat) : Int))]) (fun i => [own v l.length (l.flatMap entC) 91 35, cel ib (il.map B) 65]) (fun i => l.length - i) (0) (⟨Nat.zero_le _, fun _ h => absurd h (by omega)⟩) (by repeat (first | exact trivial | refine ⟨rfl, ?_⟩)) ((List.Sublist.refl _)) ?_
  rintro i hI
  try dsimp only at hI ⊢
  refine tk_seq ?_
  refine tk_region ?_
  refine tk_q rfl rfl rfl (y_lss rfl rfl) ?_
  refine tk_nil ?_
  refine tk_then ?_
  refine tk_seq ?_
  refine tk_condP rfl (fun ht9 => ?_) (fun ht9 => ?_)
  · skip
    refine tk_skip ?_
    refine tk_then ?_
    refine tk_seq ?_
    refine tk_block ?_
    refine tk_seq ?_
    refine tk_region ?_
    refine tk_q rfl rfl rfl (y_move rfl) ?_
    refine tk_q rfl rfl rfl (y_assign rfl) ?_
    refine tk_nil ?_
    refine tk_then ?_
    refine tk_seq ?_
    refine tk_region ?_
    refine tk_q rfl rfl rfl (y_move rfl) ?_
    refine tk_q rfl rfl rfl (y_move rfl) ?_
    refine tk_q rfl rfl rfl (y_move rfl) ?_
    refine tk_q rfl rfl rfl (y_ixE (i := i) (k := 35) rfl rfl hfe.choose_spec lenP (by kernel_rfl)) ?_
    refine tk_q rfl rfl rfl (y_loadE (i := i) (k := 35) (o := 0) (f := entC) (l := l) (d0 := dEnt) (vs := ((l.getD i dEnt).id).map B ++ ([I (((l.getD i dEnt).kind : Nat) : Int), I (((l.getD i dEnt).off : Nat) : Int), I (((l.getD i dEnt).len : Nat) : Int)])) 35 rfl (by kernel_rfl) (by rw [List.length_append, List.length_map, (l.getD i dEnt).h]; rfl) entC_len lenP (ent_all _) (fun w hw => own_rdC (hw.mem (.head _)))) ?_
    refine tk_act rfl ?_
    refine tk_perm _ (.trans (.cons _ (List.Perm.refl _)) (.swap _ _ _)) ?_
    refine a_callc [] _ rfl rfl (by kernel_rfl) rfl (fun w' hw' => addf_spec (e := l.getD i dEnt) (ib := ib) (l := il) hl (St.pre hw')) rfl fun _ _ => ?_
    refine tk_nil ?_
    refine tk_then ?_
    refine tk_condP rfl (fun ht16 => ?_) (fun ht16 => ?_)
    · skip
      refine tk_seq ?_
      refine tk_region ?_
      refine tk_q rfl rfl rfl (y_move rfl) ?_
      refine tk_q rfl rfl rfl (y_assign rfl) ?_
      refine tk_nil ?_
      refine tk_then ?_
      refine tk_retc ?_
      refine tk_in_ret ?_
      refine tk_then_ret ?_
      refine tk_then_ret ?_
      refine tk_in_ret ?_
      refine tk_then_ret ?_
      refine tk_perm _ (.trans (.cons _ (List.Perm.refl _)) (.swap _ _ _)) ?_
      exact tk_ret ((i : Int)) (⟨fun _ => has_at (by omega) ht16, fun _ => by omega⟩) (.inl rfl) (r1 rfl rfl) (List.Sublist.refl _)
    · skip
      refine tk_skip ?_
      refine tk_in_normal ?_
      refine tk_then ?_
      refine tk_region ?_
      refine tk_q rfl rfl rfl (y_addN (a := i) (b := 1) rfl rfl (by omega)) ?_
      refine tk_q rfl rfl rfl (y_move rfl) ?_
      refine tk_nil ?_
      refine tk_perm _ (.trans (.cons _ (List.Perm.refl _)) (.swap _ _ _)) ?_
      exact tk_again (i + 1) (⟨by omega, fun j hj => (Nat.lt_or_ge j i).elim (hI.2 j) (fun h => by rw [show j = i by omega]; exact ht16)⟩) (by first | omega | (dsimp only; omega)) (by repeat (first | exact trivial | refine ⟨rfl, ?_⟩)) (List.Sublist.refl _)
  · skip
    refine tk_exit ?_
    refine tk_then_exit ?_
    refine tk_then_exit ?_
    refine tk_in_hit ?_
    refine tk_then ?_
    refine tk_seq ?_
    refine tk_region ?_
    refine tk_q rfl rfl rfl (y_assign rfl) ?_
    refine tk_nil ?_
    refine tk_then ?_
    refine tk_retc ?_
    exact tk_ret (-1) (⟨fun h => absurd h (by omega), fun h => absurd h (by rw [has_none (fun j hj => hI.2 j (by omega))]; decide)⟩) (.inl rfl) (r1 rfl rfl) (List.Sublist.refl _)
theorem containsf_spec {v : Value} {l : List Ent} {ib : Nat} {il : List UInt8} {w : World} (hl : il.length = 32) (hn : l.length < 1000000) (hh : Pre w [ownA entC 35 v l 91, cel ib (il.map B) 65]) :
    Spec Tryd.prog 61 [v, .func (.func 62) #[] #[.pointer (some ⟨ib, 0, none⟩)]] w [ownA entC 35 v l 91, cel ib (il.map B) 65] (fun _ : Unit => True) (fun _ => .bool (hasE l il)) (fun _ => [ownA entC 35 v l 91, cel ib (il.map B) 65]) := by
  refine spec_of (n := 9) Tryd.func61 rfl rfl hh.1 hh.2 rfl ?_
  refine tk_ownA (.head _) fun hfe => ?_
  refine tk_seq ?_
  refine tk_region ?_
  refine tk_q rfl rfl rfl (y_assign rfl) ?_
  refine tk_nil ?_
  refine tk_then ?_
  refine tk_seq ?_
  refine tk_region ?_
  refine tk_q rfl rfl rfl (y_move rfl) ?_
  refine tk_q rfl rfl rfl (y_move rfl) ?_
  refine tk_act rfl ?_; refine a_callv [] _ rfl (by kernel_rfl) rfl (fun w' hw' => indexf_spec (v := v) (l := l) (ib := ib) (il := il) hl lenP (St.pre hw')) rfl fun r7 hr7 => ?_
  refine tk_q rfl rfl rfl (y_geq rfl rfl) ?_
  refine tk_re 8 (.bool (decide ((0 : Int) ≤ r7))) (.bool (hasE l il)) rfl (congrArg Value.bool (by rw [Bool.eq_iff_iff, ← hr7]; simp)) ?_
  refine tk_q rfl rfl rfl (y_assign rfl) ?_
  refine tk_nil ?_
  refine tk_then ?_
  refine tk_retc ?_
  exact tk_ret (()) (trivial) (.inl rfl) (r1 rfl rfl) (List.Sublist.refl _)
theorem rwrite_spec {hk mk nk bg B_ name l : List UInt8} {mb u k : Nat} {ml : Value} {w : World} (h3 : hk.length = 32 ∧ mk.length = 32 ∧ nk.length = 32) (hb : bg.length < 1099511627776 ∧ u < 10000000000 ∧ name.length < 1048576 ∧ l.length < 4294967296)
    (hh : Pre w [cel mb (hk.map B ++ (mk.map B ++ (nk.map B ++ [Str bg, I ((u : Nat) : Int), Str B_, ml]))) 86]) :
    Spec Tryd.prog 71 [.pointer (some ⟨mb, 0, none⟩), I (k : Int), Str name, Str l] w [cel mb (hk.map B ++ (mk.map B ++ (nk.map B ++ [Str bg, I ((u : Nat) : Int), Str B_, ml]))) 86] (fun _ : Unit => True) (fun _ => Str (sealF hk mk (UInt8.ofNat k) name (tapeN bg (16 * u) 16) l).1)
      (fun _ => [cel mb (hk.map B ++ (mk.map B ++ (nk.map B ++ [Str bg, I ((u + 1 : Nat) : Int), Str B_, ml]))) 86]) := by
  refine spec_of (n := 46) Tryd.func71 rfl rfl hh.1 hh.2 rfl ?_
  obtain ⟨hk32, mk32, nk32⟩ := h3
  refine tk_seq ?_
  refine tk_region ?_
  refine tk_q rfl rfl rfl (y_assign rfl) ?_
  refine tk_nil ?_
  refine tk_then ?_
  refine tk_seq ?_
  refine tk_region ?_
  refine tk_act rfl ?_; refine a_allocL (cs := (List.replicate 16 0).map B) (by kernel_rfl) rfl fun b9 => ?_
  refine tk_nil ?_
  refine tk_then ?_
  refine tk_seq ?_
  refine tk_drawH [cel mb (hk.map B ++ (mk.map B ++ (nk.map B ++ ([Str bg, I ((u : Nat) : Int), Str B_, ml])))) 86] [] (by kernel_rfl) ?_
  refine tx_q 0 rfl (by kernel_rfl) rfl rfl rfl (fun _ _ _ h => h) (y_cutA (m := 16) (sz := 1) rfl (by kernel_rfl)) ?_
  refine tx_q 1 rfl (by kernel_rfl) rfl rfl rfl (fun _ _ _ h => h) (y_move rfl) ?_
  refine tx_q 2 rfl (by kernel_rfl) rfl rfl rfl (fun _ _ _ h => h) (y_nilCheck rfl) ?_
  refine tx_q 3 rfl (by kernel_rfl) rfl rfl rfl (fun _ _ _ h => h) (y_fldN (o := 0) 96 rfl (by kernel_rfl)) ?_
  refine tx_l 4 rfl (by kernel_rfl) (by kernel_rfl) rfl rfl rfl (fun _ _ _ h => h) (fun _ h => h.sub (.cons _ (List.Sublist.refl _))) (y_load rfl rfl (hc (o := 96) (.head _) (gA (k := 32) (i := 64) (by rw [List.length_map]; exact hk32) (by omega) (gA (k := 32) (i := 32) (by rw [List.length_map]; exact mk32) (by omega) (gA (k := 32) (i := 0) (by rw [List.length_map]; exact nk32) (by omega) (rfl)))))) ?_
  refine tx_q 5 rfl (by kernel_rfl) rfl rfl rfl (fun _ _ _ h => h) (y_move rfl) ?_
  refine tx_q 6 rfl (by kernel_rfl) rfl rfl rfl (fun _ _ _ h => h) (y_nilCheck rfl) ?_
  refine tx_q 7 rfl (by kernel_rfl) rfl rfl rfl (fun _ _ _ h => h) (y_fldN (o := 0) 97 rfl (by kernel_rfl)) ?_
  refine tx_l 8 rfl (by kernel_rfl) (by kernel_rfl) rfl rfl rfl (fun _ _ _ h => h) (fun _ h => h.sub (.cons _ (List.Sublist.refl _))) (y_load rfl rfl (hc (o := 97) (.head _) (gA (k := 32) (i := 65) (by rw [List.length_map]; exact hk32) (by omega) (gA (k := 32) (i := 33) (by rw [List.length_map]; exact mk32) (by omega) (gA (k := 32) (i := 1) (by rw [List.length_map]; exact nk32) (by omega) (rfl)))))) ?_
  refine tx_q 9 rfl (by kernel_rfl) rfl rfl rfl (fun _ _ _ h => h) (y_mulN (a := 16) (b := u) rfl rfl (by omega)) ?_
  refine tx_a 10 rfl (by kernel_rfl) rfl ?_; refine a_callv [] _ rfl (by kernel_rfl) rfl (fun w' hw' => rtape_spec (b := bg) (p := 16 * u) (n := 16) lenP ⟨lenP, lenP⟩) rfl fun _ _ => ?_
  refine tk_S (fun _ h => h.sub (.cons _ (List.Sublist.refl _))) ?_
  refine tx_a 11 rfl (by kernel_rfl) rfl ?_; refine a_copyS (H1 := []) (n := 16) (l := tapeN bg (16 * u) 16) rfl rfl rfl (by kernel_rfl) rfl rfl lenP (by simp) ?_
  refine tk_S (fun _ h => h.sub (.cons _ (List.Sublist.refl _))) ?_
  refine tx_done (by kernel_rfl) ?_
  refine tk_then ?_
  refine tk_seq ?_
  refine tk_region ?_
  refine tk_q rfl rfl rfl (y_move rfl) ?_
  refine tk_q rfl rfl rfl (y_nilCheck rfl) ?_
  refine tk_q rfl rfl rfl (y_fldN (o := 0) 97 rfl (by kernel_rfl)) ?_
  refine tk_q rfl rfl rfl (y_load rfl rfl (hc (o := 97) (.tail _ (.head _)) (gA (k := 32) (i := 65) (by rw [List.length_map]; exact hk32) (by omega) (gA (k := 32) (i := 33) (by rw [List.length_map]; exact mk32) (by omega) (gA (k := 32) (i := 1) (by rw [List.length_map]; exact nk32) (by omega) (rfl)))))) ?_
  refine tk_q rfl rfl rfl (y_addN (a := u) (b := 1) rfl rfl (by omega)) ?_
  refine tk_q rfl rfl rfl (y_nilCheck rfl) ?_
  refine tk_q rfl rfl rfl (y_fldN (o := 0) 97 rfl (by kernel_rfl)) ?_
  refine tk_act rfl ?_; refine a_storeE (H1 := [_]) (o := 97) (v := I ((u + 1 : Nat) : Int)) (cs' := hk.map B ++ (mk.map B ++ (nk.map B ++ ([Str bg, I ((u + 1 : Nat) : Int), Str B_, ml])))) rfl rfl (by kernel_rfl) rfl rfl (by first | (simp; done) | (simp; omega)) (sA (k := 32) (i := 65) (by rw [List.length_map]; exact hk32) (by omega) (sA (k := 32) (i := 33) (by rw [List.length_map]; exact mk32) (by omega) (sA (k := 32) (i := 1) (by rw [List.length_map]; exact nk32) (by omega) (rfl)))) ?_
  refine tk_nil ?_
  refine tk_then ?_
  refine tk_seq ?_
  refine tk_drawH [cel b9 ((tapeN bg (16 * u) 16).map B) 25, cel mb (hk.map B ++ (mk.map B ++ (nk.map B ++ ([Str bg, I ((u + 1 : Nat) : Int), Str B_, ml])))) 86] [] (by kernel_rfl) ?_
  refine tx_q 0 rfl (by kernel_rfl) rfl rfl rfl (fun _ _ _ h => h) (y_move rfl) ?_
  refine tx_q 1 rfl (by kernel_rfl) rfl rfl rfl (fun _ _ _ h => h) (y_nilCheck rfl) ?_
  refine tx_q 2 rfl (by kernel_rfl) rfl rfl rfl (fun _ _ _ h => h) (y_fld0 (o := 0) rfl (by kernel_rfl)) ?_
  refine tx_q 3 rfl (by kernel_rfl) rfl rfl rfl (fun _ _ _ h => h) (y_fld0 (o := 0) rfl (by kernel_rfl)) ?_
  refine tx_l 4 rfl (by kernel_rfl) (by kernel_rfl) rfl rfl rfl (fun _ _ _ h => h) (fun _ h => h.sub (List.Sublist.refl _)) (y_loadA (vs := hk.map B ++ (mk.map B)) 64 rfl (by kernel_rfl) lenP (hseg (pre := ([] : List Value)) (post := nk.map B ++ ([Str bg, I ((u + 1 : Nat) : Int), Str B_, ml])) (.tail _ (.head _)) lenP (by simp))) ?_
  refine tx_q 5 rfl (by kernel_rfl) rfl rfl rfl (fun _ _ _ h => h) (y_move rfl) ?_
  refine tx_q 6 rfl (by kernel_rfl) rfl rfl rfl (fun _ _ _ h => h) (y_convi8 (m := k) rfl rfl rfl) ?_
  refine tx_q 7 rfl (by kernel_rfl) rfl rfl rfl (fun _ _ _ h => h) (y_move rfl) ?_
  refine tx_l 8 rfl (by kernel_rfl) (by kernel_rfl) rfl rfl rfl (fun _ _ _ h => h) (fun _ h => h.sub (List.Sublist.refl _)) (y_loadA 16 rfl (by kernel_rfl) lenP (hcw (.head _))) ?_
  refine tx_q 9 rfl (by kernel_rfl) rfl rfl rfl (fun _ _ _ h => h) (y_move rfl) ?_
  refine tx_a 10 rfl (by kernel_rfl) rfl ?_; refine a_callv [] _ rfl (by kernel_rfl) rfl (fun w' hw' => dseal_spec (hk := hk) (mk := mk) (kind := UInt8.ofNat k) (name := name) (N := tapeN bg (16 * u) 16) (l := l) ⟨lenP, lenP, lenP⟩ ⟨lenP, lenP⟩) rfl fun _ _ => ?_
  refine tk_S (fun _ h => h.sub (List.Sublist.refl _)) ?_
  refine tx_q 11 rfl (by kernel_rfl) rfl rfl rfl (fun _ _ _ h => h) (y_move rfl) ?_
  refine tx_q 12 rfl (by kernel_rfl) rfl rfl rfl (fun _ _ _ h => h) (y_extract rfl rfl) ?_
  refine tx_q 13 rfl (by kernel_rfl) rfl rfl rfl (fun _ _ _ h => h) (y_extract rfl rfl) ?_
  refine tx_q 14 rfl (by kernel_rfl) rfl rfl rfl (fun _ _ _ h => h) (y_assign rfl) ?_
  refine tx_q 15 rfl (by kernel_rfl) rfl rfl rfl (fun _ _ _ h => h) (y_assign rfl) ?_
  refine tx_done (by kernel_rfl) ?_
  refine tk_then ?_
  refine tk_seq ?_
  refine tk_region ?_
  refine tk_q rfl rfl rfl (y_move rfl) ?_
  refine tk_q rfl rfl rfl (y_assign rfl) ?_
  refine tk_nil ?_
  refine tk_then ?_
  refine tk_retc ?_
  exact tk_ret (()) (trivial) (.inl rfl) (r1 rfl rfl) (.cons _ (List.Sublist.refl _))
theorem from12_spec {v : Value} {l : List Ent} {w : World} (hn : l.length < 1000000) (hh : Pre w [ownA entC 35 v l 91]) :
    Spec Tryd.prog 38 [v] w [ownA entC 35 v l 91] (fun _ : Value => True) (fun x => x) (fun x => [ownA entC 35 x l 130, ownA entC 35 v l 91]) := by
  refine spec_of (n := 36) Tryd.func38 rfl rfl hh.1 hh.2 rfl ?_
  refine tk_ownA (.head _) fun hfe => ?_
  refine tk_seq ?_
  refine tk_region ?_
  refine tk_q rfl rfl rfl (y_assign rfl) ?_
  refine tk_nil ?_
  refine tk_then ?_
  refine tk_seq ?_
  refine tk_region ?_
  refine tk_q rfl rfl rfl (y_assign rfl) ?_
  refine tk_nil ?_
  refine tk_then ?_
  refine tk_seq ?_
  refine tk_seq ?_
  refine tk_region ?_
  refine tk_q rfl rfl rfl (y_assign rfl) ?_
  refine tk_nil ?_
  refine tk_then ?_
  refine tk_block ?_
  refine tk_ownA0 (f := entC) 35 130 ?_
  refine tk_H [own (.slice none 0 0) ((l.take 0).length) ((l.take 0).flatMap entC) 130 35, own v l.length (l.flatMap entC) 91 35] (congrArg (fun z_ => [z_, own v l.length (l.flatMap entC) 91 35]) (show own (.slice none 0 0) (([] : List Ent).length) (([] : List Ent).flatMap entC) 130 35 = own (.slice none 0 0) ((l.take 0).length) ((l.take 0).flatMap entC) 130 35 from ownA_cast rfl)) ?_
  refine tk_loop (X := Nat × Value) (fun (i, vo) => i ≤ l.length) (fun (i, vo) => [(0, v), (2, .slice none 0 0), (3, vo), (4, I ((i : Nat) : Int))]) (fun (i, vo) => [own vo ((l.take i).length) ((l.take i).flatMap entC) 130 35, own v l.length (l.flatMap entC) 91 35]) (fun (i, vo) => l.length - i) ((0, .slice none 0 0)) (Nat.zero_le _) (by repeat (first | exact trivial | refine ⟨rfl, ?_⟩)) ((List.Sublist.refl _)) ?_
  rintro ⟨i, vo⟩ hI
  try dsimp only at hI ⊢
  have hlt : (l.take i).length = i := by rw [List.length_take]; omega
  refine tk_ownA (.head _) fun hfo => ?_
  refine tk_seq ?_
  refine tk_seq ?_
  refine tk_region ?_
  refine tk_q rfl rfl rfl (y_move rfl) ?_
  refine tk_q rfl rfl rfl (y_move rfl) ?_
  refine tk_q rfl rfl rfl (y_lenE rfl hfe.choose_spec rfl) ?_
  refine tk_q rfl rfl rfl (y_lss rfl rfl) ?_
  refine tk_nil ?_
  refine tk_then ?_
  refine tk_condP rfl (fun ht8 => ?_) (fun ht8 => ?_)
  · skip
    have heh : (l.getD i dEnt).id.length = 32 := (l.getD i dEnt).h
    refine tk_skip ?_
    refine tk_then ?_
    refine tk_seq ?_
    refine tk_block ?_
    refine tk_drawH [own v l.length (l.flatMap entC) 91 35] [] (by kernel_rfl) ?_
    refine tx_q 0 rfl (by kernel_rfl) rfl rfl rfl (fun _ _ _ h => h) (y_move rfl) ?_
    refine tx_q 1 rfl (by kernel_rfl) rfl rfl rfl (fun _ _ _ h => h) (y_move rfl) ?_
    refine tx_q 2 rfl (by kernel_rfl) rfl rfl rfl (fun _ _ _ h => h) (y_move rfl) ?_
    refine tx_q 3 rfl (by kernel_rfl) rfl rfl rfl (fun _ _ _ h => h) (y_ixE (i := i) (k := 35) rfl rfl hfe.choose_spec lenP (by kernel_rfl)) ?_
    refine tx_q 4 rfl (by kernel_rfl) rfl rfl rfl (fun _ _ _ h => h) (y_fldE (o := i * 35 + 0) (off := 0) rfl (by kernel_rfl)) ?_
    refine tx_l 5 rfl (by kernel_rfl) (by kernel_rfl) rfl rfl rfl (fun _ _ _ h => h) (fun _ h => h.sub (.cons _ (List.Sublist.refl _))) (y_loadE (i := i) (k := 35) (o := 0) (f := entC) (l := l) (d0 := dEnt) (vs := ((l.getD i dEnt).id).map B) 32 rfl (by kernel_rfl) (by rw [List.length_map]; exact (l.getD i dEnt).h) entC_len lenP (ent_id _) (fun w hw => own_rdC (hw.mem (.head _)))) ?_
    refine tx_q 6 rfl (by kernel_rfl) rfl rfl rfl (fun _ _ _ h => h) (y_move rfl) ?_
    refine tx_q 7 rfl (by kernel_rfl) rfl rfl rfl (fun _ _ _ h => h) (y_move rfl) ?_
    refine tx_q 8 rfl (by kernel_rfl) rfl rfl rfl (fun _ _ _ h => h) (y_ixE (i := i) (k := 35) rfl rfl hfe.choose_spec lenP (by kernel_rfl)) ?_
    refine tx_q 9 rfl (by kernel_rfl) rfl rfl rfl (fun _ _ _ h => h) (y_fldE (o := i * 35 + 0) (off := 32) rfl (by kernel_rfl)) ?_
    refine tx_l 10 rfl (by kernel_rfl) (by kernel_rfl) rfl rfl rfl (fun _ _ _ h => h) (fun _ h => h.sub (.cons _ (List.Sublist.refl _))) (y_loadE1 (i := i) (k := 35) (o := 32) (f := entC) (l := l) (d0 := dEnt) (u := I (((l.getD i dEnt).kind : Nat) : Int)) rfl rfl entC_len lenP (ent_k _) (fun w hw => own_rdC (hw.mem (.head _)))) ?_
    refine tx_q 11 rfl (by kernel_rfl) rfl rfl rfl (fun _ _ _ h => h) (y_move rfl) ?_
    refine tx_q 12 rfl (by kernel_rfl) rfl rfl rfl (fun _ _ _ h => h) (y_move rfl) ?_
    refine tx_q 13 rfl (by kernel_rfl) rfl rfl rfl (fun _ _ _ h => h) (y_ixE (i := i) (k := 35) rfl rfl hfe.choose_spec lenP (by kernel_rfl)) ?_
    refine tx_q 14 rfl (by kernel_rfl) rfl rfl rfl (fun _ _ _ h => h) (y_fldE (o := i * 35 + 0) (off := 33) rfl (by kernel_rfl)) ?_
    refine tx_l 15 rfl (by kernel_rfl) (by kernel_rfl) rfl rfl rfl (fun _ _ _ h => h) (fun _ h => h.sub (.cons _ (List.Sublist.refl _))) (y_loadE1 (i := i) (k := 35) (o := 33) (f := entC) (l := l) (d0 := dEnt) (u := I (((l.getD i dEnt).off : Nat) : Int)) rfl rfl entC_len lenP (ent_o _) (fun w hw => own_rdC (hw.mem (.head _)))) ?_
    refine tx_q 16 rfl (by kernel_rfl) rfl rfl rfl (fun _ _ _ h => h) (y_move rfl) ?_
    refine tx_q 17 rfl (by kernel_rfl) rfl rfl rfl (fun _ _ _ h => h) (y_move rfl) ?_
    refine tx_q 18 rfl (by kernel_rfl) rfl rfl rfl (fun _ _ _ h => h) (y_ixE (i := i) (k := 35) rfl rfl hfe.choose_spec lenP (by kernel_rfl)) ?_
    refine tx_q 19 rfl (by kernel_rfl) rfl rfl rfl (fun _ _ _ h => h) (y_fldE (o := i * 35 + 0) (off := 34) rfl (by kernel_rfl)) ?_
    refine tx_l 20 rfl (by kernel_rfl) (by kernel_rfl) rfl rfl rfl (fun _ _ _ h => h) (fun _ h => h.sub (.cons _ (List.Sublist.refl _))) (y_loadE1 (i := i) (k := 35) (o := 34) (f := entC) (l := l) (d0 := dEnt) (u := I (((l.getD i dEnt).len : Nat) : Int)) rfl rfl entC_len lenP (ent_l _) (fun w hw => own_rdC (hw.mem (.head _)))) ?_
    refine tx_q 21 rfl (by kernel_rfl) rfl rfl rfl (fun _ _ _ h => h) (y_build (v := .agg (((l.getD i dEnt).id).map B ++ ([I (((l.getD i dEnt).kind : Nat) : Int), I (((l.getD i dEnt).off : Nat) : Int), I (((l.getD i dEnt).len : Nat) : Int)])).toArray) (vs := [(0, .agg (((l.getD i dEnt).id).map B).toArray), (1, I (((l.getD i dEnt).kind : Nat) : Int)), (2, I (((l.getD i dEnt).off : Nat) : Int)), (3, I (((l.getD i dEnt).len : Nat) : Int))]) rfl (run_build (zs := (List.replicate 32 0).map B ++ ([I 0, I 0, I 0])) (pl := [(0, 32), (32, 1), (33, 1), (34, 1)]) Tryd.underlying130 (fun _ => by kernel_rfl) (fun _ => by kernel_rfl) (fillP4 (a := ((l.getD i dEnt).id).map B) lenP (by simp) rfl))) ?_
    refine tx_a 22 rfl (by kernel_rfl) rfl ?_; refine a_slitE (k := 35) (cs := ((l.getD i dEnt).id).map B ++ ([I (((l.getD i dEnt).kind : Nat) : Int), I (((l.getD i dEnt).off : Nat) : Int), I (((l.getD i dEnt).len : Nat) : Int)])) rfl EL79 lenP (by decide) rfl fun b33 => ?_
    refine tk_S (fun _ h => h.sub (.cons _ (.cons _ (List.Sublist.refl _)))) ?_
    refine tx_more [cel b33 (((l.getD i dEnt).id).map B ++ ([I (((l.getD i dEnt).kind : Nat) : Int), I (((l.getD i dEnt).off : Nat) : Int), I (((l.getD i dEnt).len : Nat) : Int)])) 130, own v l.length (l.flatMap entC) 91 35] (fun _ h => h.sub (.cons _ (List.Sublist.refl _))) (fun _ h => h.sub (.cons_cons _ (.cons _ (List.Sublist.refl _)))) ?_
    refine tx_a 23 rfl (by kernel_rfl) rfl ?_; refine a_appE (H1 := [_]) (f := entC) (l := l.take i) (e := l.getD i dEnt) (b := b33) (k := 35) rfl rfl EL79 rfl rfl (.head _) (entC_len _) (List.forall_mem_append.2 ⟨oneB, (List.forall_mem_cons.2 ⟨rfl, (List.forall_mem_cons.2 ⟨rfl, (List.forall_mem_cons.2 ⟨rfl, (fun _ h => nomatch h)⟩)⟩)⟩)⟩) lenP lenP fun v34 => ?_
    refine tk_ownA (.tail _ (.head _)) fun hfv34 => ?_
    refine tk_S (fun _ h => h.sub (.cons_cons _ (.cons _ (List.Sublist.refl _)))) ?_
    refine tx_q 24 rfl (by kernel_rfl) rfl rfl rfl (fun _ _ _ h => h) (y_assign rfl) ?_
    refine tx_done (by kernel_rfl) ?_
    refine tk_in_normal ?_
    refine tk_then ?_
    refine tk_region ?_
    refine tk_q rfl rfl rfl (y_move rfl) ?_
    refine tk_q rfl rfl rfl (y_addN (a := i) (b := 1) rfl rfl (by omega)) ?_
    refine tk_q rfl rfl rfl (y_assign rfl) ?_
    refine tk_nil ?_
    refine tk_H [cel b33 (((l.getD i dEnt).id).map B ++ ([I (((l.getD i dEnt).kind : Nat) : Int), I (((l.getD i dEnt).off : Nat) : Int), I (((l.getD i dEnt).len : Nat) : Int)])) 130, own v34 ((l.take (i + 1)).length) ((l.take (i + 1)).flatMap entC) 130 35, own v l.length (l.flatMap entC) 91 35] (congrArg (fun z_ => [cel b33 (((l.getD i dEnt).id).map B ++ ([I (((l.getD i dEnt).kind : Nat) : Int), I (((l.getD i dEnt).off : Nat) : Int), I (((l.getD i dEnt).len : Nat) : Int)])) 130, z_, own v l.length (l.flatMap entC) 91 35]) (show own v34 (((l.take i) ++ [l.getD i dEnt]).length) (((l.take i) ++ [l.getD i dEnt]).flatMap entC) 130 35 = own v34 ((l.take (i + 1)).length) ((l.take (i + 1)).flatMap entC) 130 35 from ownA_cast (take_snoc (by omega)))) ?_
    exact tk_again ((i + 1, v34)) (by first | exact trivial | omega | (dsimp only; omega)) (by first | omega | (dsimp only; omega)) (by repeat (first | exact trivial | refine ⟨rfl, ?_⟩)) (.cons _ (List.Sublist.refl _))
  · skip
    refine tk_exit ?_
    refine tk_then_exit ?_
    refine tk_then_exit ?_
    refine tk_in_hit ?_
    refine tk_then ?_
    refine tk_seq ?_
    refine tk_region ?_
    refine tk_q rfl rfl rfl (y_move rfl) ?_
    refine tk_q rfl rfl rfl (y_assign rfl) ?_
    refine tk_nil ?_
    refine tk_then ?_
    refine tk_retc ?_
    refine tk_H [own vo l.length (l.flatMap entC) 130 35, own v l.length (l.flatMap entC) 91 35] (congrArg (fun z_ => [z_, own v l.length (l.flatMap entC) 91 35]) (show own vo ((l.take i).length) ((l.take i).flatMap entC) 130 35 = own vo l.length (l.flatMap entC) 130 35 from ownA_cast (by rw [show i = l.length by omega, List.take_length]))) ?_
    exact tk_ret (vo) (trivial) (.inl rfl) (r1 rfl rfl) (List.Sublist.refl _)
theorem from0_spec {w : World} : Spec Tryd.prog 38 [.slice none 0 0] w [] (fun _ : Value => True) (fun x => x) (fun x => [ownA entC 35 x ([] : List Ent) 130]) := by
  refine spec_of (n := 36) Tryd.func38 rfl rfl trivial trivial rfl ?_
  refine tk_seq ?_
  refine tk_region ?_
  refine tk_q rfl rfl rfl (y_assign rfl) ?_
  refine tk_nil ?_
  refine tk_then ?_
  refine tk_seq ?_
  refine tk_region ?_
  refine tk_q rfl rfl rfl (y_assign rfl) ?_
  refine tk_nil ?_
  refine tk_then ?_
  refine tk_seq ?_
  refine tk_seq ?_
  refine tk_region ?_
  refine tk_q rfl rfl rfl (y_assign rfl) ?_
  refine tk_nil ?_
  refine tk_then ?_
  refine tk_block ?_
  refine tk_loop (X := Unit) (fun _u => True) (fun _u => [(0, .slice none 0 0), (2, .slice none 0 0), (3, .slice none 0 0), (4, I 0)]) (fun _u => []) (fun _u => 0) (()) (by first | exact trivial | omega | (dsimp only; omega)) (by repeat (first | exact trivial | refine ⟨rfl, ?_⟩)) ((List.Sublist.refl _)) ?_
  rintro _u hI
  try dsimp only at hI ⊢
  refine tk_seq ?_
  refine tk_seq ?_
  refine tk_region ?_
  refine tk_q rfl rfl rfl (y_move rfl) ?_
  refine tk_q rfl rfl rfl (y_move rfl) ?_
  refine tk_q rfl rfl rfl (y_lenE rfl (show RdC default (.slice none 0 0) 0 [] from .inl ⟨rfl, rfl, rfl⟩) rfl) ?_
  refine tk_q rfl rfl rfl ((y_lss rfl rfl).cast (bool_f (by decide))) ?_
  refine tk_nil ?_
  refine tk_then ?_
  refine tk_cond0 rfl ?_
  refine tk_exit ?_
  refine tk_then_exit ?_
  refine tk_then_exit ?_
  refine tk_in_hit ?_
  refine tk_then ?_
  refine tk_seq ?_
  refine tk_region ?_
  refine tk_q rfl rfl rfl (y_move rfl) ?_
  refine tk_q rfl rfl rfl (y_assign rfl) ?_
  refine tk_nil ?_
  refine tk_then ?_
  refine tk_retc ?_
  refine tk_ownA0 (f := entC) 35 130 ?_
  exact tk_ret (.slice none 0 0) (trivial) (.inl rfl) (r1 rfl rfl) (List.Sublist.refl _)
theorem same12_spec {v1 v2 : Value} {l m : List Ent} {w : World} (hn : l.length < 1000000) (hm : m.length < 1000000) (hh : Pre w [ownA entC 35 v1 l 130, ownA entC 35 v2 m 130]) :
    Spec Tryd.prog 37 [v1, v2] w [ownA entC 35 v1 l 130, ownA entC 35 v2 m 130] (fun _ : Unit => True) (fun _ => .bool (decide (l = m))) (fun _ => [ownA entC 35 v1 l 130, ownA entC 35 v2 m 130]) := by
  refine spec_of (n := 26) Tryd.func37 rfl rfl hh.1 hh.2 rfl ?_
  refine tk_ownA (.head _) fun hf1 => ?_
  refine tk_ownA (.tail _ (.head _)) fun hf2 => ?_
  refine tk_seq ?_
  refine tk_region ?_
  refine tk_q rfl rfl rfl (y_assign rfl) ?_
  refine tk_nil ?_
  refine tk_then ?_
  refine tk_seq ?_
  refine tk_seq ?_
  refine tk_region ?_
  refine tk_q rfl rfl rfl (y_move rfl) ?_
  refine tk_q rfl rfl rfl (y_lenE rfl hf1.choose_spec rfl) ?_
  refine tk_q rfl rfl rfl (y_move rfl) ?_
  refine tk_q rfl rfl rfl (y_lenE rfl hf2.choose_spec rfl) ?_
  refine tk_q rfl rfl rfl (y_neq rfl rfl) ?_
  refine tk_nil ?_
  refine tk_then ?_
  refine tk_condP rfl (fun ht10 => ?_) (fun ht10 => ?_)
  · skip
    refine tk_seq ?_
    refine tk_region ?_
    refine tk_q rfl rfl rfl (y_assign rfl) ?_
    refine tk_nil ?_
    refine tk_then ?_
    refine tk_retc ?_
    refine tk_then_ret ?_
    refine tk_re 4 (.bool false) (.bool (decide (l = m))) rfl (by rw [decide_eq_false (fun h : l = m => ht10 (by rw [h]))]) ?_
    exact tk_ret (()) (trivial) (.inl rfl) (r1 rfl rfl) (List.Sublist.refl _)
  · skip
    refine tk_skip ?_
    refine tk_then ?_
    refine tk_seq ?_
    refine tk_seq ?_
    refine tk_region ?_
    refine tk_q rfl rfl rfl (y_assign rfl) ?_
    refine tk_nil ?_
    refine tk_then ?_
    refine tk_block ?_
    refine tk_loop (X := Nat) (fun i => i ≤ l.length ∧ ∀ j, j < i → l.getD j dEnt = m.getD j dEnt) (fun i => [(0, v1), (1, v2), (5, I ((i : Nat) : Int))]) (fun i => [own v1 l.length (l.flatMap entC) 130 35, own v2 m.length (m.flatMap entC) 130 35]) (fun i => l.length - i) (0) (⟨Nat.zero_le _, fun _ h => absurd h (by omega)⟩) (by repeat (first | exact trivial | refine ⟨rfl, ?_⟩)) ((List.Sublist.refl _)) ?_
    rintro i hI
    try dsimp only at hI ⊢
    refine tk_seq ?_
    refine tk_seq ?_
    refine tk_region ?_
    refine tk_q rfl rfl rfl (y_move rfl) ?_
    refine tk_q rfl rfl rfl (y_move rfl) ?_
    refine tk_q rfl rfl rfl (y_lenE rfl hf1.choose_spec rfl) ?_
    refine tk_q rfl rfl rfl (y_lss rfl rfl) ?_
    refine tk_nil ?_
    refine tk_then ?_
    refine tk_condP rfl (fun ht14 => ?_) (fun ht14 => ?_)
    · skip
      refine tk_skip ?_
      refine tk_then ?_
      refine tk_seq ?_
      refine tk_block ?_
      refine tk_seq ?_
      refine tk_drawH [own v1 l.length (l.flatMap entC) 130 35, own v2 m.length (m.flatMap entC) 130 35] [] (by kernel_rfl) ?_
      refine tx_q 0 rfl (by kernel_rfl) rfl rfl rfl (fun _ _ _ h => h) (y_move rfl) ?_
      refine tx_q 1 rfl (by kernel_rfl) rfl rfl rfl (fun _ _ _ h => h) (y_move rfl) ?_
      refine tx_q 2 rfl (by kernel_rfl) rfl rfl rfl (fun _ _ _ h => h) (y_ixE (i := i) (k := 35) rfl rfl hf1.choose_spec lenP (by kernel_rfl)) ?_
      refine tx_l 3 rfl (by kernel_rfl) (by kernel_rfl) rfl rfl rfl (fun _ _ _ h => h) (fun _ h => h.sub (List.Sublist.refl _)) (y_loadE (i := i) (k := 35) (o := 0) (f := entC) (l := l) (d0 := dEnt) (vs := ((l.getD i dEnt).id).map B ++ ([I (((l.getD i dEnt).kind : Nat) : Int), I (((l.getD i dEnt).off : Nat) : Int), I (((l.getD i dEnt).len : Nat) : Int)])) 35 rfl (by kernel_rfl) (by rw [List.length_append, List.length_map, (l.getD i dEnt).h]; rfl) entC_len lenP (ent_all _) (fun w hw => own_rdC (hw.mem (.head _)))) ?_
      refine tx_q 4 rfl (by kernel_rfl) rfl rfl rfl (fun _ _ _ h => h) (y_move rfl) ?_
      refine tx_q 5 rfl (by kernel_rfl) rfl rfl rfl (fun _ _ _ h => h) (y_move rfl) ?_
      refine tx_q 6 rfl (by kernel_rfl) rfl rfl rfl (fun _ _ _ h => h) (y_ixE (i := i) (k := 35) rfl rfl hf2.choose_spec lenP (by kernel_rfl)) ?_
      refine tx_l 7 rfl (by kernel_rfl) (by kernel_rfl) rfl rfl rfl (fun _ _ _ h => h) (fun _ h => h.sub (List.Sublist.refl _)) (y_loadE (i := i) (k := 35) (o := 0) (f := entC) (l := m) (d0 := dEnt) (vs := ((m.getD i dEnt).id).map B ++ ([I (((m.getD i dEnt).kind : Nat) : Int), I (((m.getD i dEnt).off : Nat) : Int), I (((m.getD i dEnt).len : Nat) : Int)])) 35 rfl (by kernel_rfl) (by rw [List.length_append, List.length_map, (m.getD i dEnt).h]; rfl) entC_len lenP (ent_all _) (fun w hw => own_rdC (hw.mem (.tail _ (.head _))))) ?_
      refine tx_q 8 rfl (by kernel_rfl) rfl rfl rfl (fun _ _ _ h => h) (y_stNe (p := l.getD i dEnt = m.getD i dEnt) rfl rfl (by kernel_rfl) eqc_rent ⟨⟨_, rfl⟩, ⟨_, rfl⟩, entC_len _, entC_len _⟩ (by kernel_rfl) entC_inj) ?_
      refine tx_done (by kernel_rfl) ?_
      refine tk_then ?_
      refine tk_condP rfl (fun ht25 => ?_) (fun ht25 => ?_)
      · skip
        refine tk_seq ?_
        refine tk_region ?_
        refine tk_q rfl rfl rfl (y_assign rfl) ?_
        refine tk_nil ?_
        refine tk_then ?_
        refine tk_retc ?_
        refine tk_in_ret ?_
        refine tk_then_ret ?_
        refine tk_then_ret ?_
        refine tk_in_ret ?_
        refine tk_then_ret ?_
        refine tk_re 4 (.bool false) (.bool (decide (l = m))) rfl (by rw [decide_eq_false (fun h : l = m => ht25 (by rw [h]))]) ?_
        exact tk_ret (()) (trivial) (.inl rfl) (r1 rfl rfl) (List.Sublist.refl _)
      · skip
        refine tk_skip ?_
        refine tk_in_normal ?_
        refine tk_then ?_
        refine tk_region ?_
        refine tk_q rfl rfl rfl (y_move rfl) ?_
        refine tk_q rfl rfl rfl (y_addN (a := i) (b := 1) rfl rfl (by omega)) ?_
        refine tk_q rfl rfl rfl (y_assign rfl) ?_
        refine tk_nil ?_
        exact tk_again (i + 1) (⟨by omega, fun j hj => (Nat.lt_or_ge j i).elim (hI.2 j) (fun h => by rw [show j = i by omega]; exact Classical.not_not.1 ht25)⟩) (by first | omega | (dsimp only; omega)) (by repeat (first | exact trivial | refine ⟨rfl, ?_⟩)) (List.Sublist.refl _)
    · skip
      refine tk_exit ?_
      refine tk_then_exit ?_
      refine tk_then_exit ?_
      refine tk_in_hit ?_
      refine tk_then ?_
      refine tk_seq ?_
      refine tk_region ?_
      refine tk_q rfl rfl rfl (y_assign rfl) ?_
      refine tk_nil ?_
      refine tk_then ?_
      refine tk_retc ?_
      refine tk_re 4 (.bool true) (.bool (decide (l = m))) rfl (by rw [decide_eq_true (list_ext (by omega) (fun j hj => hI.2 j (by omega)))]) ?_
      exact tk_ret (()) (trivial) (.inl rfl) (r1 rfl rfl) (List.Sublist.refl _)
theorem ring12_spec {n : UInt8} {w : World} : Spec Tryd.prog 42 [B n] w [] (fun _ : Unit => True) (fun _ => .tuple #[.agg ((rg n 1).map B ++ ((rg n 2).map B ++ (rg n 3).map B)).toArray, .agg ((rg n 1).map B ++ ((rg n 2).map B ++ (rg n 3).map B)).toArray]) (fun _ => []) := by
  refine spec_of (n := 24) Tryd.func42 rfl rfl trivial trivial rfl ?_
  refine tk_seq ?_
  refine tk_region ?_
  refine tk_act rfl ?_; refine a_allocL (cs := (List.replicate 32 0).map B ++ ((List.replicate 32 0).map B ++ ((List.replicate 32 0).map B))) (by kernel_rfl) rfl fun b2 => ?_
  refine tk_act rfl ?_; refine a_allocL (cs := (List.replicate 32 0).map B ++ ((List.replicate 32 0).map B ++ ((List.replicate 32 0).map B))) (by kernel_rfl) rfl fun b3 => ?_
  refine tk_nil ?_
  refine tk_then ?_
  refine tk_seq ?_
  refine tk_region ?_
  refine tk_q rfl rfl rfl (y_move rfl) ?_
  refine tk_q rfl rfl rfl (y_build (v := .agg (([n, 1, 0, 0, 0, 0, 0, 0, 0, 0, 0, 0, 0, 0, 0, 0, 0, 0, 0, 0, 0, 0, 0, 0, 0, 0, 0, 0, 0, 0, 0, 0] : List UInt8).map B).toArray) (vs := [(0, B n), (1, B 1)]) rfl (fun _ => by kernel_rfl)) ?_
  refine tk_re 6 (.agg (([n, 1, 0, 0, 0, 0, 0, 0, 0, 0, 0, 0, 0, 0, 0, 0, 0, 0, 0, 0, 0, 0, 0, 0, 0, 0, 0, 0, 0, 0, 0, 0] : List UInt8).map B).toArray) (.agg ((rg n 1).map B).toArray) rfl (rfl) ?_
  refine tk_q rfl rfl rfl (y_move rfl) ?_
  refine tk_q rfl rfl rfl (y_build (v := .agg (([n, 2, 0, 0, 0, 0, 0, 0, 0, 0, 0, 0, 0, 0, 0, 0, 0, 0, 0, 0, 0, 0, 0, 0, 0, 0, 0, 0, 0, 0, 0, 0] : List UInt8).map B).toArray) (vs := [(0, B n), (1, B 2)]) rfl (fun _ => by kernel_rfl)) ?_
  refine tk_re 8 (.agg (([n, 2, 0, 0, 0, 0, 0, 0, 0, 0, 0, 0, 0, 0, 0, 0, 0, 0, 0, 0, 0, 0, 0, 0, 0, 0, 0, 0, 0, 0, 0, 0] : List UInt8).map B).toArray) (.agg ((rg n 2).map B).toArray) rfl (rfl) ?_
  refine tk_q rfl rfl rfl (y_build (v := .agg ((rg n 1).map B ++ ((rg n 2).map B)).toArray) (vs := [(0, .agg ((rg n 1).map B).toArray), (1, .agg ((rg n 2).map B).toArray)]) rfl (run_build (zs := (List.replicate 32 0).map B ++ ((List.replicate 32 0).map B)) (pl := [(0, 32), (32, 32)]) Tryd.underlying36 (fun _ => by kernel_rfl) (fun _ => by kernel_rfl) (fillP2 (a := (rg n 1).map B) (b := (rg n 2).map B) lenP (by simp) (by simp) (by simp)))) ?_
  refine tk_q rfl rfl rfl (y_move rfl) ?_
  refine tk_q rfl rfl rfl (y_build (v := .agg (([n, 3, 0, 0, 0, 0, 0, 0, 0, 0, 0, 0, 0, 0, 0, 0, 0, 0, 0, 0, 0, 0, 0, 0, 0, 0, 0, 0, 0, 0, 0, 0] : List UInt8).map B).toArray) (vs := [(0, B n), (1, B 3)]) rfl (fun _ => by kernel_rfl)) ?_
  refine tk_re 11 (.agg (([n, 3, 0, 0, 0, 0, 0, 0, 0, 0, 0, 0, 0, 0, 0, 0, 0, 0, 0, 0, 0, 0, 0, 0, 0, 0, 0, 0, 0, 0, 0, 0] : List UInt8).map B).toArray) (.agg ((rg n 3).map B).toArray) rfl (rfl) ?_
  refine tk_q rfl rfl rfl (y_build (v := .agg ((rg n 1).map B ++ ((rg n 2).map B ++ ((rg n 3).map B))).toArray) (vs := [(0, .agg ((rg n 1).map B ++ ((rg n 2).map B)).toArray), (1, .agg ((rg n 3).map B).toArray)]) rfl (run_build (zs := (List.replicate 32 0).map B ++ ((List.replicate 32 0).map B ++ ((List.replicate 32 0).map B))) (pl := [(0, 64), (64, 32)]) Tryd.underlying49 (fun _ => by kernel_rfl) (fun _ => by kernel_rfl) (fillP2 (a := (rg n 1).map B ++ ((rg n 2).map B)) (b := (rg n 3).map B) lenP (by simp) (by simp) (by simp)))) ?_
  refine tk_act rfl ?_; refine a_allocL (cs := (List.replicate 32 0).map B ++ ((List.replicate 32 0).map B ++ ((List.replicate 32 0).map B))) (by kernel_rfl) rfl fun b4 => ?_
  refine tk_act rfl ?_; refine a_storeW (H1 := []) (vs := (rg n 1).map B ++ ((rg n 2).map B ++ ((rg n 3).map B))) 96 rfl rfl (by kernel_rfl) rfl ⟨lenP, lenP⟩ (List.forall_mem_append.2 ⟨oneB, (List.forall_mem_append.2 ⟨oneB, oneB⟩)⟩) ?_
  refine tk_nil ?_
  refine tk_then ?_
  refine tk_seq ?_
  refine tk_drawH [cel b4 ((rg n 1).map B ++ ((rg n 2).map B ++ ((rg n 3).map B))) 49] [] (by kernel_rfl) ?_
  refine tx_l 0 rfl (by kernel_rfl) (by kernel_rfl) rfl rfl rfl (fun _ _ _ h => h) (fun _ h => h.sub (.cons_cons _ (List.nil_sublist _))) (y_loadA 96 rfl (by kernel_rfl) lenP (hcw (.head _))) ?_
  refine tx_q 1 rfl (by kernel_rfl) rfl rfl rfl (fun _ _ _ h => h) (y_fld0 (o := 0) rfl (by kernel_rfl)) ?_
  refine tx_q 2 rfl (by kernel_rfl) rfl rfl rfl (fun _ _ _ h => h) (y_fld0 (o := 0) rfl (by kernel_rfl)) ?_
  refine tx_l 3 rfl (by kernel_rfl) (by kernel_rfl) rfl rfl rfl (fun _ _ _ h => h) (fun _ h => h.sub (.cons_cons _ (List.nil_sublist _))) (y_loadA (vs := (rg n 1).map B) 32 rfl (by kernel_rfl) lenP (hseg (pre := ([] : List Value)) (post := (rg n 2).map B ++ ((rg n 3).map B)) (.head _) lenP (by simp))) ?_
  refine tx_q 4 rfl (by kernel_rfl) rfl rfl rfl (fun _ _ _ h => h) (y_fld0 (o := 0) rfl (by kernel_rfl)) ?_
  refine tx_q 5 rfl (by kernel_rfl) rfl rfl rfl (fun _ _ _ h => h) (y_fldN (o := 0) 32 rfl (by kernel_rfl)) ?_
  refine tx_l 6 rfl (by kernel_rfl) (by kernel_rfl) rfl rfl rfl (fun _ _ _ h => h) (fun _ h => h.sub (.cons_cons _ (List.nil_sublist _))) (y_loadA (vs := (rg n 2).map B) 32 rfl (by kernel_rfl) lenP (hseg (pre := (rg n 1).map B) (post := (rg n 3).map B) (.head _) lenP (by simp))) ?_
  refine tx_q 7 rfl (by kernel_rfl) rfl rfl rfl (fun _ _ _ h => h) (y_build (v := .agg ((rg n 1).map B ++ ((rg n 2).map B)).toArray) (vs := [(0, .agg ((rg n 1).map B).toArray), (1, .agg ((rg n 2).map B).toArray)]) rfl (run_build (zs := (List.replicate 32 0).map B ++ ((List.replicate 32 0).map B)) (pl := [(0, 32), (32, 32)]) Tryd.underlying24 (fun _ => by kernel_rfl) (fun _ => by kernel_rfl) (fillP2 (a := (rg n 1).map B) (b := (rg n 2).map B) lenP (by simp) (by simp) (by simp)))) ?_
  refine tx_q 8 rfl (by kernel_rfl) rfl rfl rfl (fun _ _ _ h => h) (y_fldN (o := 0) 64 rfl (by kernel_rfl)) ?_
  refine tx_l 9 rfl (by kernel_rfl) (by kernel_rfl) rfl rfl rfl (fun _ _ _ h => h) (fun _ h => h.sub (.cons_cons _ (List.nil_sublist _))) (y_loadA (vs := (rg n 3).map B) 32 rfl (by kernel_rfl) lenP (hseg (pre := (rg n 1).map B ++ ((rg n 2).map B)) (post := ([] : List Value)) (.head _) lenP (by simp))) ?_
  refine tx_q 10 rfl (by kernel_rfl) rfl rfl rfl (fun _ _ _ h => h) (y_build (v := .agg ((rg n 1).map B ++ ((rg n 2).map B ++ ((rg n 3).map B))).toArray) (vs := [(0, .agg ((rg n 1).map B ++ ((rg n 2).map B)).toArray), (1, .agg ((rg n 3).map B).toArray)]) rfl (run_build (zs := (List.replicate 32 0).map B ++ ((List.replicate 32 0).map B ++ ((List.replicate 32 0).map B))) (pl := [(0, 64), (64, 32)]) Tryd.underlying54 (fun _ => by kernel_rfl) (fun _ => by kernel_rfl) (fillP2 (a := (rg n 1).map B ++ ((rg n 2).map B)) (b := (rg n 3).map B) lenP (by simp) (by simp) (by simp)))) ?_
  refine tx_a 11 rfl (by kernel_rfl) rfl ?_; refine a_storeW (H1 := [_, _]) (vs := (rg n 1).map B ++ ((rg n 2).map B ++ ((rg n 3).map B))) 96 rfl rfl (by kernel_rfl) rfl ⟨lenP, lenP⟩ (List.forall_mem_append.2 ⟨oneB, (List.forall_mem_append.2 ⟨oneB, oneB⟩)⟩) ?_
  refine tk_S (fun _ h => h.sub (.cons_cons _ (List.nil_sublist _))) ?_
  refine tx_a 12 rfl (by kernel_rfl) rfl ?_; refine a_storeW (H1 := [_]) (vs := (rg n 1).map B ++ ((rg n 2).map B ++ ((rg n 3).map B))) 96 rfl rfl (by kernel_rfl) rfl ⟨lenP, lenP⟩ (List.forall_mem_append.2 ⟨oneB, (List.forall_mem_append.2 ⟨oneB, oneB⟩)⟩) ?_
  refine tk_S (fun _ h => h.sub (.cons_cons _ (List.nil_sublist _))) ?_
  refine tx_done (by kernel_rfl) ?_
  refine tk_then ?_
  refine tk_retc ?_
  exact tk_ret (()) (trivial) (.inl rfl) (rcc (vs := (rg n 1).map B ++ ((rg n 2).map B ++ ((rg n 3).map B))) (vs2 := (rg n 1).map B ++ ((rg n 2).map B ++ ((rg n 3).map B))) rfl rfl (by simp; kernel_rfl) (hcw (.tail _ (.tail _ (.head _)))) rfl (by simp; kernel_rfl) (hcw (.tail _ (.head _)))) (List.nil_sublist _)
theorem pnew_spec {hk mk nk : List UInt8} {tb : Nat} {w : World} (h3 : hk.length = 32 ∧ mk.length = 32 ∧ nk.length = 32) : Spec Tryd.prog 68 [.agg (hk.map B ++ (mk.map B ++ (nk.map B ++ [Value.pointer (some ⟨tb, 0, none⟩)]))).toArray] w [] (fun _ : Nat => True) (fun x => .pointer (some ⟨x, 0, none⟩))
    (fun x => [cel x (hk.map B ++ (mk.map B ++ (nk.map B ++ [Value.pointer (some ⟨tb, 0, none⟩), .slice none 0 0, .slice none 0 0]))) 117]) := by
  refine spec_of (n := 6) Tryd.func68 rfl rfl trivial trivial rfl ?_
  obtain ⟨hk32, mk32, nk32⟩ := h3
  refine tk_seq ?_
  refine tk_region ?_
  refine tk_act rfl ?_; refine a_boxL (cs := hk.map B ++ (mk.map B ++ (nk.map B ++ ([Value.pointer (some ⟨tb, 0, none⟩)])))) rfl rfl fun b1 => ?_
  refine tk_q rfl rfl rfl (y_assign rfl) ?_
  refine tk_nil ?_
  refine tk_then ?_
  refine tk_seq ?_
  refine tk_region ?_
  refine tk_q rfl rfl rfl (y_loadA 97 rfl (by kernel_rfl) lenP (hcw (.head _))) ?_
  refine tk_q rfl rfl rfl (y_build (v := .agg (hk.map B ++ (mk.map B ++ (nk.map B ++ ([Value.pointer (some ⟨tb, 0, none⟩), .slice none 0 0, .slice none 0 0])))).toArray) (vs := [(0, .agg (hk.map B ++ (mk.map B ++ (nk.map B ++ ([Value.pointer (some ⟨tb, 0, none⟩)])))).toArray)]) rfl (run_build (zs := (List.replicate 32 0).map B ++ ((List.replicate 32 0).map B ++ ((List.replicate 32 0).map B ++ ([Value.pointer none, .slice none 0 0, .slice none 0 0])))) (pl := [(0, 97), (97, 1), (98, 1)]) Tryd.underlying117 (fun _ => by kernel_rfl) (fun _ => by kernel_rfl) (fillP1 (a := hk.map B ++ (mk.map B ++ (nk.map B ++ ([Value.pointer (some ⟨tb, 0, none⟩)])))) lenP (by simp) (by simp)))) ?_
  refine tk_act rfl ?_; refine a_boxL (cs := hk.map B ++ (mk.map B ++ (nk.map B ++ ([Value.pointer (some ⟨tb, 0, none⟩), .slice none 0 0, .slice none 0 0])))) rfl rfl fun b5 => ?_
  refine tk_q rfl rfl rfl (y_assign rfl) ?_
  refine tk_nil ?_
  refine tk_then ?_
  refine tk_retc ?_
  exact tk_ret (b5) (trivial) (.inl rfl) (r1 rfl rfl) (.cons_cons _ (List.nil_sublist _))
end Go.Proofs.YtfofkjajlfphjaaDoor

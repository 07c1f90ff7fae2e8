/- Texts of the claim LogFolds, part 4 of 6: ShelfC, ShelfD, KeysP, IterS, IterT, LogB, IndexD, IndexE, CipF, CipBox, CipG, CipH, CipI, WaxB, IndexF, IndexG, LogCalm. Own work. -/
import Derived.Maps.Own
import Derived.Shelf.LaysM
import Derived.Shelf.SlIter.Nil
import Derived.Shelf.SortM.Plain
import Derived.Shelf.SortM.SortNone
import Derived.Shelf.Strconv.Itoa3
import Derived.Shelf.Strings.Repeat
import Derived.Sort.KeysCollected
import Derived.StringKeys
import Derived.Test.YtkkjfojgjmglpaaGreatDoorPtLogFolds3
set_option linter.unusedSimpArgs false
set_option linter.unusedVariables false
namespace Go.Proofs.YtkkjfojgjmglpaaGreatDoor
open Go Go.RowKit
set_option maxRecDepth 100000
theorem tk_bagW {c : Cx} {L : Sl} {H : List Res} {K : Act → World → Prop} {ps qs : List Res} (hpq : (∀ w, Hs w ps → Hs w qs) ∧ ∀ k, Fs qs k → Fs ps k) (h : TK c K L (bag qs :: H)) : TK c K L (bag ps :: H) := fun a w ha hw =>
  h a w ha ⟨hw.fr, ⟨hpq.1 w hw.hs.1, hw.hs.2⟩, ⟨fun k hk hf => hw.dj.1 k (hpq.2 k hk) hf, hw.dj.2⟩, fun k hk => hw.own k (hk.imp (hpq.2 k) id)⟩
theorem bagW_perm {ps qs : List Res} (h : ps.Perm qs) : (∀ w, Hs w ps → Hs w qs) ∧ ∀ k, Fs qs k → Fs ps k := ⟨fun _ hw => Hs_perm h hw, fun k hk => Fs_perm h.symm k hk⟩
theorem bagW_sub {ps qs : List Res} (h : qs.Sublist ps) : (∀ w, Hs w ps → Hs w qs) ∧ ∀ k, Fs qs k → Fs ps k := ⟨fun _ hw => Hs.sub h hw, fun _ hk => Fs.sub h hk⟩
theorem ren_bag {T : TypeId} {l : List Ob} {na nb : List UInt8} (hn : (l.map Ob.name).Nodup) (h : hasO l na) : (l.map (obR T)).Perm ((delO l na ++ [nameTo (lkO l na) nb]).map (obR T)) := by
  have := (del_perm hn h).map (obR T)
  rw [List.map_append] at this ⊢
  exact this
theorem ren1_spec {s : Sh} {sb mb c0 c1 c2 : Nat} {na nb : List UInt8} {w : World} (hok : ShOk s) (hnb : nb.length < 9223372036854775808) (hh : Pre w [cel sb ([Value.map (some mb), I (s.left), .bool s.off, I (s.made), I (s.room)]) 192, mapS mb (kvO s.obs), bag (s.obs.map (obR 5)), cel c0 ([Value.pointer (some ⟨sb, 0, none⟩)]) 72, cel c1 ([Str na]) 9, cel c2 ([Str nb]) 9]) : Spec Tryz.prog 176 [.pointer (some ⟨c0, 0, none⟩), .pointer (some ⟨c1, 0, none⟩), .pointer (some ⟨c2, 0, none⟩)] w [cel sb ([Value.map (some mb), I (s.left), .bool s.off, I (s.made), I (s.room)]) 192, mapS mb (kvO s.obs), bag (s.obs.map (obR 5)), cel c0 ([Value.pointer (some ⟨sb, 0, none⟩)]) 72, cel c1 ([Str na]) 9, cel c2 ([Str nb]) 9] (fun _ : Unit => True) (fun _ => I ((renC s na nb : Nat) : Int)) (fun _ => [cel sb ([Value.map (some mb), I (s.left), .bool s.off, I (s.made), I (s.room)]) 192, mapS mb (kvO s.obs), bag (s.obs.map (obR 5)), cel c0 ([Value.pointer (some ⟨sb, 0, none⟩)]) 72, cel c1 ([Str na]) 9, cel c2 ([Str nb]) 9]) := by
  refine spec_of (n := 42) Tryz.func176 rfl rfl hh.1 hh.2 rfl ?_
  have hsum := hok.sum
  have hrm := hok.room
  refine tk_bagO (.tail _ (.tail _ (.head _))) fun hbo => ?_
  have hlk := lk_one hbo
  
  refine s_r ?_; refine s_q rfl (y_assign rfl) ?_; refine s_n ?_; refine tk_seq ?_; refine tk_drawH [cel sb ([Value.map (some mb), I (s.left), .bool s.off, I (s.made), I (s.room)]) 192, mapS mb (kvO s.obs), bag (s.obs.map (obR 5)), cel c0 ([Value.pointer (some ⟨sb, 0, none⟩)]) 72, cel c1 ([Str na]) 9, cel c2 ([Str nb]) 9] [] (by kernel_rfl) ?_; refine s_l 0 rfl (fun _ h => h.sub (List.Sublist.refl _)) (y_load rfl rfl (hc (o := 0) (.tail _ (.tail _ (.tail _ (.head _)))) (rfl))) ?_
  refine s_x 1 rfl (y_nilCheck rfl) ?_; refine s_x 2 rfl (y_fld0 (o := 0) rfl (by kernel_rfl)) ?_; refine s_x 3 rfl (y_fld0 (o := 0) rfl (by kernel_rfl)) ?_; refine s_l 4 rfl (fun _ h => h.sub (List.Sublist.refl _)) (y_load rfl rfl (hc (o := 0) (.head _) (rfl))) ?_; refine s_l 5 rfl (fun _ h => h.sub (List.Sublist.refl _)) (y_load rfl rfl (hc (o := 0) (.tail _ (.tail _ (.tail _ (.tail _ (.head _))))) (rfl))) ?_
  refine s_l 6 rfl (fun _ h => h.sub (List.Sublist.refl _)) ((y_getSok (b := mb) (kv := (kvO s.obs)) (k := na) (zv := .agg [Value.slice none 0 0, .bool false].toArray) rfl rfl Tryz.underlying186 Tryz.underlying9 (fun _ => by kernel_rfl) (fun w hw => hw.mem (.tail _ (.head _)))).cast (kvO_ok)) ?_; refine s_x 7 rfl (y_move rfl) ?_; refine s_x 8 rfl (y_extract rfl rfl) ?_; refine s_x 9 rfl (y_extract rfl rfl) ?_
  refine tx_a 10 rfl (by kernel_rfl) rfl ?_; refine a_allocL (cs := [Value.slice none 0 0, .bool false]) (by kernel_rfl) rfl fun b4 => ?_; refine tk_S (fun _ h => h.sub (.cons _ (List.Sublist.refl _))) ?_; refine tx_a 11 rfl (by kernel_rfl) rfl ?_; refine a_storeW (H1 := []) (vs := [(lkO s.obs na).v, .bool ((lkO s.obs na).sure)]) 2 rfl rfl (by kernel_rfl) rfl ⟨lenP, lenP⟩ (List.forall_mem_cons.2 ⟨(hlk _), (List.forall_mem_cons.2 ⟨rfl, (fun _ h => nomatch h)⟩)⟩) ?_
  refine tk_S (fun _ h => h.sub (.cons _ (List.Sublist.refl _))) ?_; refine s_x 12 rfl (y_assign rfl) ?_; refine tx_done (by kernel_rfl) ?_; refine tk_then ?_; refine tk_seq ?_; refine tk_drawH [cel b4 ([(lkO s.obs na).v, .bool ((lkO s.obs na).sure)]) 198, cel sb ([Value.map (some mb), I (s.left), .bool s.off, I (s.made), I (s.room)]) 192, mapS mb (kvO s.obs), bag (s.obs.map (obR 5)), cel c0 ([Value.pointer (some ⟨sb, 0, none⟩)]) 72, cel c1 ([Str na]) 9, cel c2 ([Str nb]) 9] [] (by kernel_rfl) ?_
  refine s_l 0 rfl (fun _ h => h.sub (List.Sublist.refl _)) (y_load rfl rfl (hc (o := 0) (.tail _ (.tail _ (.tail _ (.tail _ (.head _))))) (rfl))) ?_; refine s_x 1 rfl (y_nilCheck rfl) ?_; refine s_x 2 rfl (y_fld0 (o := 0) rfl (by kernel_rfl)) ?_; refine s_x 3 rfl (y_fld0 (o := 0) rfl (by kernel_rfl)) ?_; refine s_l 4 rfl (fun _ h => h.sub (List.Sublist.refl _)) (y_load rfl rfl (hc (o := 0) (.tail _ (.head _)) (rfl))) ?_
  refine s_l 5 rfl (fun _ h => h.sub (List.Sublist.refl _)) (y_load rfl rfl (hc (o := 0) (.tail _ (.tail _ (.tail _ (.tail _ (.tail _ (.tail _ (.head _))))))) (rfl))) ?_; refine s_l 6 rfl (fun _ h => h.sub (List.Sublist.refl _)) ((y_getSok (b := mb) (kv := (kvO s.obs)) (k := nb) (zv := .agg [Value.slice none 0 0, .bool false].toArray) rfl rfl Tryz.underlying186 Tryz.underlying9 (fun _ => by kernel_rfl) (fun w hw => hw.mem (.tail _ (.tail _ (.head _))))).cast (kvO_ok)) ?_
  refine s_x 7 rfl (y_move rfl) ?_; refine s_x 8 rfl (y_extract rfl rfl) ?_; refine s_x 9 rfl (y_extract rfl rfl) ?_; refine tx_a 10 rfl (by kernel_rfl) rfl ?_; refine a_allocL (cs := [Value.slice none 0 0, .bool false]) (by kernel_rfl) rfl fun b6 => ?_; refine tk_S (fun _ h => h.sub (.cons _ (List.Sublist.refl _))) ?_; refine tx_a 11 rfl (by kernel_rfl) rfl ?_; refine a_storeW (H1 := []) (vs := [(lkO s.obs nb).v, .bool ((lkO s.obs nb).sure)]) 2 rfl rfl (by kernel_rfl) rfl ⟨lenP, lenP⟩ (List.forall_mem_cons.2 ⟨(hlk _), (List.forall_mem_cons.2 ⟨rfl, (fun _ h => nomatch h)⟩)⟩) ?_
  refine tk_S (fun _ h => h.sub (.cons _ (List.Sublist.refl _))) ?_; refine s_x 12 rfl (y_assign rfl) ?_; refine tx_done (by kernel_rfl) ?_; refine tk_then ?_; refine tk_seq ?_; refine tk_block ?_; refine s_r ?_; refine s_q rfl (y_load rfl rfl (hc (o := 0) (.tail _ (.tail _ (.tail _ (.tail _ (.tail _ (.tail _ (.tail _ (.head _)))))))) (rfl))) ?_; refine tk_act rfl ?_; refine a_callv [] _ rfl (by kernel_rfl) rfl (fun w' hw' => isname_spec (l := nb) lenP) rfl fun _ _ => ?_
  refine s_q rfl ((y_not rfl).cast (notdec _)) ?_; refine s_q rfl (y_assign rfl) ?_; refine s_n ?_; refine tk_condP rfl (fun ht28 => ?_) (fun ht28 => ?_)
  · skip
    refine s_r ?_; refine s_q rfl (y_assign rfl) ?_; refine s_n ?_; refine tk_retc ?_; refine tk_in_ret ?_; refine tk_then_ret ?_; refine tk_re 3 (I 5) (I ((renC s na nb : Nat) : Int)) rfl (by rw [renC, if_pos ht28]; rfl) ?_
    exact tk_ret (()) (trivial) (.inl rfl) (r1 rfl rfl) (.cons _ (.cons _ (List.Sublist.refl _)))
  · skip
    refine s_r ?_; refine s_q rfl (y_move rfl) ?_; refine s_q rfl ((y_not rfl).cast (notdec _)) ?_; refine s_q rfl (y_assign rfl) ?_; refine s_n ?_; refine tk_condP rfl (fun ht32 => ?_) (fun ht32 => ?_)
    · skip
      refine s_r ?_; refine s_q rfl (y_assign rfl) ?_; refine s_n ?_; refine tk_retc ?_; refine tk_in_ret ?_; refine tk_then_ret ?_; refine tk_re 3 (I 6) (I ((renC s na nb : Nat) : Int)) rfl (by rw [renC, if_neg ht28, if_pos ht32]; rfl) ?_
      exact tk_ret (()) (trivial) (.inl rfl) (r1 rfl rfl) (.cons _ (.cons _ (List.Sublist.refl _)))
    · skip
      refine s_r ?_; refine tk_qs rfl rfl rfl (y_move rfl) (fun hs7_0 => ?_) (fun hs7_0 => ?_)
      · skip
        refine s_q rfl (y_move rfl) ?_; refine s_g rfl (y_load rfl rfl (hc (o := 0) (.tail _ (.tail _ (.tail _ (.tail _ (.tail _ (.tail _ (.head _))))))) (rfl))) ?_; refine s_g rfl (y_load rfl rfl (hc (o := 0) (.tail _ (.tail _ (.tail _ (.tail _ (.tail _ (.tail _ (.tail _ (.head _)))))))) (rfl))) ?_; refine s_g rfl (y_strNe (l := na) (m := nb) rfl rfl) ?_; refine s_q rfl (y_pick1 rfl rfl) ?_; refine s_q rfl (y_assign rfl) ?_
        refine s_n ?_; refine tk_condP rfl (fun ht35 => ?_) (fun ht35 => ?_)
        · skip
          refine s_r ?_; refine s_q rfl (y_assign rfl) ?_; refine s_n ?_; refine tk_retc ?_; refine tk_in_ret ?_; refine tk_then_ret ?_; refine tk_re 3 (I 7) (I ((renC s na nb : Nat) : Int)) rfl (by rw [renC, if_neg ht28, if_neg ht32, if_pos ⟨hs7_0, ht35⟩]; rfl) ?_
          exact tk_ret (()) (trivial) (.inl rfl) (r1 rfl rfl) (.cons _ (.cons _ (List.Sublist.refl _)))
        · skip
          refine tk_skip ?_; refine tk_in_normal ?_; refine tk_then ?_; refine s_r ?_; refine s_q rfl (y_assign rfl) ?_; refine s_n ?_; refine tk_retc ?_; refine tk_re 3 (I 0) (I ((renC s na nb : Nat) : Int)) rfl (by rw [renC, if_neg ht28, if_neg ht32, if_neg (fun q => ht35 q.2)]; rfl) ?_
          exact tk_ret (()) (trivial) (.inl rfl) (r1 rfl rfl) (.cons _ (.cons _ (List.Sublist.refl _)))
      · skip
        refine s_q rfl (y_move rfl) ?_; refine tk_gno rfl rfl rfl ?_; refine tk_gno rfl rfl rfl ?_; refine tk_gno rfl rfl rfl ?_; refine s_q rfl (y_pick0 rfl rfl) ?_; refine s_q rfl (y_assign rfl) ?_; refine s_n ?_; refine tk_cond0 rfl ?_; refine tk_skip ?_; refine tk_in_normal ?_; refine tk_then ?_; refine s_r ?_; refine s_q rfl (y_assign rfl) ?_; refine s_n ?_; refine tk_retc ?_; refine tk_re 3 (I 0) (I ((renC s na nb : Nat) : Int)) rfl (by rw [renC, if_neg ht28, if_neg ht32, if_neg (fun q => hs7_0 q.1)]; rfl) ?_
        exact tk_ret (()) (trivial) (.inl rfl) (r1 rfl rfl) (.cons _ (.cons _ (List.Sublist.refl _)))
theorem ren2_spec {s : Sh} {sb mb c0 c1 c2 : Nat} {na nb : List UInt8} {w : World} (hnd : (s.obs.map Ob.name).Nodup) (hha : hasO s.obs na) (hno : hasO s.obs nb → na = nb) (hh : Pre w [cel sb ([Value.map (some mb), I (s.left), .bool s.off, I (s.made), I (s.room)]) 192, mapS mb (kvO s.obs), bag (s.obs.map (obR 5)), cel c0 ([Value.pointer (some ⟨sb, 0, none⟩)]) 72, cel c1 ([Str na]) 9, cel c2 ([Str nb]) 9]) : Spec Tryz.prog 177 [.pointer (some ⟨c0, 0, none⟩), .pointer (some ⟨c1, 0, none⟩), .pointer (some ⟨c2, 0, none⟩)] w [cel sb ([Value.map (some mb), I (s.left), .bool s.off, I (s.made), I (s.room)]) 192, mapS mb (kvO s.obs), bag (s.obs.map (obR 5)), cel c0 ([Value.pointer (some ⟨sb, 0, none⟩)]) 72, cel c1 ([Str na]) 9, cel c2 ([Str nb]) 9] (fun _ : Unit => True) (fun _ => .tuple #[]) (fun _ => [cel sb ([Value.map (some mb), I ((s.obsTo (delO s.obs na ++ [nameTo (lkO s.obs na) nb])).left), .bool ((s.obsTo (delO s.obs na ++ [nameTo (lkO s.obs na) nb])).off), I ((s.obsTo (delO s.obs na ++ [nameTo (lkO s.obs na) nb])).made), I ((s.obsTo (delO s.obs na ++ [nameTo (lkO s.obs na) nb])).room)]) 192, mapS mb (kvO ((s.obsTo (delO s.obs na ++ [nameTo (lkO s.obs na) nb])).obs)), bag (((s.obsTo (delO s.obs na ++ [nameTo (lkO s.obs na) nb])).obs).map (obR 5)), cel c0 ([Value.pointer (some ⟨sb, 0, none⟩)]) 72, cel c1 ([Str na]) 9, cel c2 ([Str nb]) 9]) := by
  refine spec_of (n := 24) Tryz.func177 rfl rfl hh.1 hh.2 rfl ?_; refine tk_bagO (.tail _ (.tail _ (.head _))) fun hbo => ?_
  have hlk := lk_one hbo
  refine tk_seq ?_; refine tk_drawH [cel sb ([Value.map (some mb), I (s.left), .bool s.off, I (s.made), I (s.room)]) 192, mapS mb (kvO s.obs), bag (s.obs.map (obR 5)), cel c0 ([Value.pointer (some ⟨sb, 0, none⟩)]) 72, cel c1 ([Str na]) 9, cel c2 ([Str nb]) 9] [] (by kernel_rfl) ?_; refine s_l 0 rfl (fun _ h => h.sub (List.Sublist.refl _)) (y_load rfl rfl (hc (o := 0) (.tail _ (.tail _ (.tail _ (.head _)))) (rfl))) ?_
  refine s_x 1 rfl (y_nilCheck rfl) ?_; refine s_x 2 rfl (y_fld0 (o := 0) rfl (by kernel_rfl)) ?_; refine s_x 3 rfl (y_fld0 (o := 0) rfl (by kernel_rfl)) ?_; refine s_l 4 rfl (fun _ h => h.sub (List.Sublist.refl _)) (y_load rfl rfl (hc (o := 0) (.head _) (rfl))) ?_; refine s_l 5 rfl (fun _ h => h.sub (List.Sublist.refl _)) (y_load rfl rfl (hc (o := 0) (.tail _ (.tail _ (.tail _ (.tail _ (.head _))))) (rfl))) ?_
  refine s_l 6 rfl (fun _ h => h.sub (List.Sublist.refl _)) ((y_getS (b := mb) (kv := (kvO s.obs)) (k := na) (zv := .agg [Value.slice none 0 0, .bool false].toArray) rfl rfl Tryz.underlying186 Tryz.underlying9 (fun _ => by kernel_rfl) (fun w hw => hw.mem (.tail _ (.head _)))).cast (kvO_get)) ?_; refine tx_a 7 rfl (by kernel_rfl) rfl ?_; refine a_allocL (cs := [Value.slice none 0 0, .bool false]) (by kernel_rfl) rfl fun b3 => ?_
  refine tk_S (fun _ h => h.sub (.cons _ (List.Sublist.refl _))) ?_; refine tx_a 8 rfl (by kernel_rfl) rfl ?_; refine a_storeW (H1 := []) (vs := [(lkO s.obs na).v, .bool ((lkO s.obs na).sure)]) 2 rfl rfl (by kernel_rfl) rfl ⟨lenP, lenP⟩ (List.forall_mem_cons.2 ⟨(hlk _), (List.forall_mem_cons.2 ⟨rfl, (fun _ h => nomatch h)⟩)⟩) ?_; refine tk_S (fun _ h => h.sub (.cons _ (List.Sublist.refl _))) ?_; refine tx_done (by kernel_rfl) ?_
  refine tk_then ?_; refine tk_seq ?_; refine tk_drawH [cel b3 ([(lkO s.obs na).v, .bool ((lkO s.obs na).sure)]) 198, cel sb ([Value.map (some mb), I (s.left), .bool s.off, I (s.made), I (s.room)]) 192, bag (s.obs.map (obR 5)), cel c0 ([Value.pointer (some ⟨sb, 0, none⟩)]) 72, cel c1 ([Str na]) 9, cel c2 ([Str nb]) 9] [] (by kernel_rfl) ?_; refine s_l 0 rfl (fun _ h => h.sub (.cons_cons _ (.cons_cons _ (.cons _ (List.Sublist.refl _))))) (y_load rfl rfl (hc (o := 0) (.tail _ (.tail _ (.tail _ (.head _)))) (rfl))) ?_
  refine s_x 1 rfl (y_nilCheck rfl) ?_; refine s_x 2 rfl (y_fld0 (o := 0) rfl (by kernel_rfl)) ?_; refine s_x 3 rfl (y_fld0 (o := 0) rfl (by kernel_rfl)) ?_; refine s_l 4 rfl (fun _ h => h.sub (.cons_cons _ (.cons_cons _ (.cons _ (List.Sublist.refl _))))) (y_load rfl rfl (hc (o := 0) (.tail _ (.head _)) (rfl))) ?_; refine s_l 5 rfl (fun _ h => h.sub (.cons_cons _ (.cons_cons _ (.cons _ (List.Sublist.refl _))))) (y_load rfl rfl (hc (o := 0) (.tail _ (.tail _ (.tail _ (.tail _ (.head _))))) (rfl))) ?_
  refine tx_a 6 rfl (by kernel_rfl) rfl ?_; refine a_delS (H1 := [_, _]) (b := mb) (kv := (kvO s.obs)) (k := na) rfl rfl Tryz.underlying186 Tryz.underlying9 rfl ?_; refine tk_S (fun _ h => h.sub (.cons_cons _ (.cons_cons _ (.cons _ (List.Sublist.refl _))))) ?_; refine tx_done (by kernel_rfl) ?_; refine tk_then ?_; refine tk_H [cel b3 ([(lkO s.obs na).v, .bool ((lkO s.obs na).sure)]) 198, cel sb ([Value.map (some mb), I (s.left), .bool s.off, I (s.made), I (s.room)]) 192, mapS mb (kvO (delO s.obs na)), bag (s.obs.map (obR 5)), cel c0 ([Value.pointer (some ⟨sb, 0, none⟩)]) 72, cel c1 ([Str na]) 9, cel c2 ([Str nb]) 9] (congrArg (fun z_ => [cel b3 ([(lkO s.obs na).v, .bool ((lkO s.obs na).sure)]) 198, cel sb ([Value.map (some mb), I (s.left), .bool s.off, I (s.made), I (s.room)]) 192, z_, bag (s.obs.map (obR 5)), cel c0 ([Value.pointer (some ⟨sb, 0, none⟩)]) 72, cel c1 ([Str na]) 9, cel c2 ([Str nb]) 9]) (show mapS mb (delS (kvO s.obs) na) = mapS mb (kvO (delO s.obs na)) from mapS_cast kvO_del)) ?_
  refine tk_drawH [cel b3 ([(lkO s.obs na).v, .bool ((lkO s.obs na).sure)]) 198, cel sb ([Value.map (some mb), I (s.left), .bool s.off, I (s.made), I (s.room)]) 192, bag (s.obs.map (obR 5)), cel c0 ([Value.pointer (some ⟨sb, 0, none⟩)]) 72, cel c1 ([Str na]) 9, cel c2 ([Str nb]) 9] [] (by kernel_rfl) ?_; refine s_l 0 rfl (fun _ h => h.sub (.cons_cons _ (.cons_cons _ (.cons _ (List.Sublist.refl _))))) (y_load rfl rfl (hc (o := 0) (.tail _ (.tail _ (.tail _ (.head _)))) (rfl))) ?_
  refine s_x 1 rfl (y_nilCheck rfl) ?_; refine s_x 2 rfl (y_fld0 (o := 0) rfl (by kernel_rfl)) ?_; refine s_x 3 rfl (y_fld0 (o := 0) rfl (by kernel_rfl)) ?_; refine s_l 4 rfl (fun _ h => h.sub (.cons_cons _ (.cons_cons _ (.cons _ (List.Sublist.refl _))))) (y_load rfl rfl (hc (o := 0) (.tail _ (.head _)) (rfl))) ?_; refine s_l 5 rfl (fun _ h => h.sub (.cons_cons _ (.cons_cons _ (.cons _ (List.Sublist.refl _))))) (y_load rfl rfl (hc (o := 0) (.tail _ (.tail _ (.tail _ (.tail _ (.tail _ (.head _)))))) (rfl))) ?_
  refine s_l 6 rfl (fun _ h => h.sub (.cons_cons _ (.cons_cons _ (.cons _ (List.Sublist.refl _))))) (y_loadA 2 rfl (by kernel_rfl) lenP (hcw (.head _))) ?_; refine tx_a 7 rfl (by kernel_rfl) rfl ?_; refine a_setS (H1 := [_, _]) (b := mb) (kv := (kvO (delO s.obs na))) (k := nb) (v := (Value.agg ([(lkO s.obs na).v, .bool ((lkO s.obs na).sure)]).toArray)) rfl rfl rfl Tryz.underlying186 Tryz.underlying9 rfl ?_
  refine tk_S (fun _ h => h.sub (.cons_cons _ (.cons_cons _ (.cons _ (List.Sublist.refl _))))) ?_; refine tx_done (by kernel_rfl) ?_; refine tk_H [cel b3 ([(lkO s.obs na).v, .bool ((lkO s.obs na).sure)]) 198, cel sb ([Value.map (some mb), I (s.left), .bool s.off, I (s.made), I (s.room)]) 192, mapS mb (kvO (delO s.obs na ++ [nameTo (lkO s.obs na) nb])), bag (s.obs.map (obR 5)), cel c0 ([Value.pointer (some ⟨sb, 0, none⟩)]) 72, cel c1 ([Str na]) 9, cel c2 ([Str nb]) 9] (congrArg (fun z_ => [cel b3 ([(lkO s.obs na).v, .bool ((lkO s.obs na).sure)]) 198, cel sb ([Value.map (some mb), I (s.left), .bool s.off, I (s.made), I (s.room)]) 192, z_, bag (s.obs.map (obR 5)), cel c0 ([Value.pointer (some ⟨sb, 0, none⟩)]) 72, cel c1 ([Str na]) 9, cel c2 ([Str nb]) 9]) (show mapS mb (setS ((kvO (delO s.obs na))) nb ((Value.agg ([(lkO s.obs na).v, .bool ((lkO s.obs na).sure)]).toArray))) = mapS mb (kvO (delO s.obs na ++ [nameTo (lkO s.obs na) nb])) from mapS_cast (kvO_new (o := nameTo (lkO s.obs na) nb) (fun h => (del_has.1 h).2 (hno (del_has.1 h).1).symm)))) ?_
  refine tk_perm _ mv3 ?_; refine tk_bagW (qs := (delO s.obs na ++ [nameTo (lkO s.obs na) nb]).map (obR 5)) (bagW_perm (ren_bag hnd hha)) ?_; refine tk_perm _ mv6 ?_; refine tk_perm _ mv6 ?_; refine tk_perm _ mv6 ?_; refine tk_perm _ mv3 ?_; refine tk_perm _ mv6 ?_; refine tk_perm _ mv6 ?_
  exact tk_ret (()) (trivial) (.inr rfl) (r0 rfl) (.cons_cons _ (.cons_cons _ (.cons_cons _ (.cons_cons _ (.cons_cons _ (.cons_cons _ (List.nil_sublist _)))))))
theorem del1_spec {s : Sh} {sb mb c0 c1 : Nat} {na : List UInt8} {w : World} (hok : ShOk s) (hh : Pre w [cel sb ([Value.map (some mb), I (s.left), .bool s.off, I (s.made), I (s.room)]) 192, mapS mb (kvO s.obs), bag (s.obs.map (obR 5)), cel c0 ([Value.pointer (some ⟨sb, 0, none⟩)]) 72, cel c1 ([Str na]) 9]) : Spec Tryz.prog 141 [.pointer (some ⟨c0, 0, none⟩), .pointer (some ⟨c1, 0, none⟩)] w [cel sb ([Value.map (some mb), I (s.left), .bool s.off, I (s.made), I (s.room)]) 192, mapS mb (kvO s.obs), bag (s.obs.map (obR 5)), cel c0 ([Value.pointer (some ⟨sb, 0, none⟩)]) 72, cel c1 ([Str na]) 9] (fun _ : Unit => True) (fun _ => I ((delC s na : Nat) : Int)) (fun _ => [cel sb ([Value.map (some mb), I (s.left), .bool s.off, I (s.made), I (s.room)]) 192, mapS mb (kvO s.obs), bag (s.obs.map (obR 5)), cel c0 ([Value.pointer (some ⟨sb, 0, none⟩)]) 72, cel c1 ([Str na]) 9]) := by
  refine spec_of (n := 17) Tryz.func141 rfl rfl hh.1 hh.2 rfl ?_
  have hsum := hok.sum
  have hrm := hok.room
  refine tk_bagO (.tail _ (.tail _ (.head _))) fun hbo => ?_
  have hlk := lk_one hbo
  
  refine s_r ?_; refine s_q rfl (y_assign rfl) ?_; refine s_n ?_; refine tk_seq ?_; refine tk_seq ?_; refine tk_drawH [cel sb ([Value.map (some mb), I (s.left), .bool s.off, I (s.made), I (s.room)]) 192, mapS mb (kvO s.obs), bag (s.obs.map (obR 5)), cel c0 ([Value.pointer (some ⟨sb, 0, none⟩)]) 72, cel c1 ([Str na]) 9] [] (by kernel_rfl) ?_; refine s_l 0 rfl (fun _ h => h.sub (List.Sublist.refl _)) (y_load rfl rfl (hc (o := 0) (.tail _ (.tail _ (.tail _ (.head _)))) (rfl))) ?_
  refine s_x 1 rfl (y_nilCheck rfl) ?_; refine s_x 2 rfl (y_fld0 (o := 0) rfl (by kernel_rfl)) ?_; refine s_x 3 rfl (y_fld0 (o := 0) rfl (by kernel_rfl)) ?_; refine s_l 4 rfl (fun _ h => h.sub (List.Sublist.refl _)) (y_load rfl rfl (hc (o := 0) (.head _) (rfl))) ?_; refine s_l 5 rfl (fun _ h => h.sub (List.Sublist.refl _)) (y_load rfl rfl (hc (o := 0) (.tail _ (.tail _ (.tail _ (.tail _ (.head _))))) (rfl))) ?_
  refine s_l 6 rfl (fun _ h => h.sub (List.Sublist.refl _)) ((y_getSok (b := mb) (kv := (kvO s.obs)) (k := na) (zv := .agg [Value.slice none 0 0, .bool false].toArray) rfl rfl Tryz.underlying186 Tryz.underlying9 (fun _ => by kernel_rfl) (fun w hw => hw.mem (.tail _ (.head _)))).cast (kvO_ok)) ?_; refine s_x 7 rfl (y_move rfl) ?_; refine s_x 8 rfl (y_extract rfl rfl) ?_; refine s_x 9 rfl (y_extract rfl rfl) ?_
  refine tx_a 10 rfl (by kernel_rfl) rfl ?_; refine a_allocL (cs := [Value.slice none 0 0, .bool false]) (by kernel_rfl) rfl fun b3 => ?_; refine tk_S (fun _ h => h.sub (.cons _ (List.Sublist.refl _))) ?_; refine tx_a 11 rfl (by kernel_rfl) rfl ?_; refine a_storeW (H1 := []) (vs := [(lkO s.obs na).v, .bool ((lkO s.obs na).sure)]) 2 rfl rfl (by kernel_rfl) rfl ⟨lenP, lenP⟩ (List.forall_mem_cons.2 ⟨(hlk _), (List.forall_mem_cons.2 ⟨rfl, (fun _ h => nomatch h)⟩)⟩) ?_
  refine tk_S (fun _ h => h.sub (.cons _ (List.Sublist.refl _))) ?_; refine s_x 12 rfl (y_assign rfl) ?_; refine tx_done (by kernel_rfl) ?_; refine tk_then ?_; refine s_r ?_; refine s_q rfl (y_move rfl) ?_; refine s_q rfl ((y_not rfl).cast (notdec _)) ?_; refine s_n ?_; refine tk_condP rfl (fun ht16 => ?_) (fun ht16 => ?_)
  · skip
    refine s_r ?_; refine s_q rfl (y_assign rfl) ?_; refine s_n ?_; refine tk_retc ?_; refine tk_then_ret ?_; refine tk_re 2 (I 6) (I ((delC s na : Nat) : Int)) rfl (by rw [delC, if_pos ht16]; rfl) ?_
    exact tk_ret (()) (trivial) (.inl rfl) (r1 rfl rfl) (.cons _ (List.Sublist.refl _))
  · skip
    refine tk_skip ?_; refine tk_then ?_; refine s_r ?_; refine s_q rfl (y_assign rfl) ?_; refine s_n ?_; refine tk_retc ?_; refine tk_re 2 (I 0) (I ((delC s na : Nat) : Int)) rfl (by rw [delC, if_neg ht16]; rfl) ?_
    exact tk_ret (()) (trivial) (.inl rfl) (r1 rfl rfl) (.cons _ (List.Sublist.refl _))
theorem del2_spec {s : Sh} {sb mb c0 c1 : Nat} {na : List UInt8} {w : World} (hh : Pre w [cel sb ([Value.map (some mb), I (s.left), .bool s.off, I (s.made), I (s.room)]) 192, mapS mb (kvO s.obs), bag (s.obs.map (obR 5)), cel c0 ([Value.pointer (some ⟨sb, 0, none⟩)]) 72, cel c1 ([Str na]) 9]) : Spec Tryz.prog 142 [.pointer (some ⟨c0, 0, none⟩), .pointer (some ⟨c1, 0, none⟩)] w [cel sb ([Value.map (some mb), I (s.left), .bool s.off, I (s.made), I (s.room)]) 192, mapS mb (kvO s.obs), bag (s.obs.map (obR 5)), cel c0 ([Value.pointer (some ⟨sb, 0, none⟩)]) 72, cel c1 ([Str na]) 9] (fun _ : Unit => True) (fun _ => .tuple #[]) (fun _ => [cel sb ([Value.map (some mb), I ((s.obsTo (delO s.obs na)).left), .bool ((s.obsTo (delO s.obs na)).off), I ((s.obsTo (delO s.obs na)).made), I ((s.obsTo (delO s.obs na)).room)]) 192, mapS mb (kvO ((s.obsTo (delO s.obs na)).obs)), bag (((s.obsTo (delO s.obs na)).obs).map (obR 5)), cel c0 ([Value.pointer (some ⟨sb, 0, none⟩)]) 72, cel c1 ([Str na]) 9]) := by
  refine spec_of (n := 8) Tryz.func142 rfl rfl hh.1 hh.2 rfl ?_; refine tk_drawH [cel sb ([Value.map (some mb), I (s.left), .bool s.off, I (s.made), I (s.room)]) 192, bag (s.obs.map (obR 5)), cel c0 ([Value.pointer (some ⟨sb, 0, none⟩)]) 72, cel c1 ([Str na]) 9] [] (by kernel_rfl) ?_; refine s_l 0 rfl (fun _ h => h.sub (.cons_cons _ (.cons _ (List.Sublist.refl _)))) (y_load rfl rfl (hc (o := 0) (.tail _ (.tail _ (.head _))) (rfl))) ?_
  refine s_x 1 rfl (y_nilCheck rfl) ?_; refine s_x 2 rfl (y_fld0 (o := 0) rfl (by kernel_rfl)) ?_; refine s_x 3 rfl (y_fld0 (o := 0) rfl (by kernel_rfl)) ?_; refine s_l 4 rfl (fun _ h => h.sub (.cons_cons _ (.cons _ (List.Sublist.refl _)))) (y_load rfl rfl (hc (o := 0) (.head _) (rfl))) ?_; refine s_l 5 rfl (fun _ h => h.sub (.cons_cons _ (.cons _ (List.Sublist.refl _)))) (y_load rfl rfl (hc (o := 0) (.tail _ (.tail _ (.tail _ (.head _)))) (rfl))) ?_
  refine tx_a 6 rfl (by kernel_rfl) rfl ?_; refine a_delS (H1 := [_]) (b := mb) (kv := (kvO s.obs)) (k := na) rfl rfl Tryz.underlying186 Tryz.underlying9 rfl ?_; refine tk_S (fun _ h => h.sub (.cons_cons _ (.cons _ (List.Sublist.refl _)))) ?_; refine tx_done (by kernel_rfl) ?_; refine tk_H [cel sb ([Value.map (some mb), I (s.left), .bool s.off, I (s.made), I (s.room)]) 192, mapS mb (kvO (delO s.obs na)), bag (s.obs.map (obR 5)), cel c0 ([Value.pointer (some ⟨sb, 0, none⟩)]) 72, cel c1 ([Str na]) 9] (congrArg (fun z_ => [cel sb ([Value.map (some mb), I (s.left), .bool s.off, I (s.made), I (s.room)]) 192, z_, bag (s.obs.map (obR 5)), cel c0 ([Value.pointer (some ⟨sb, 0, none⟩)]) 72, cel c1 ([Str na]) 9]) (show mapS mb (delS (kvO s.obs) na) = mapS mb (kvO (delO s.obs na)) from mapS_cast kvO_del)) ?_
  refine tk_perm _ mv2 ?_; refine tk_bagW (qs := (delO s.obs na).map (obR 5)) (bagW_sub (List.Sublist.map _ List.filter_sublist)) ?_; refine tk_perm _ mv4 ?_; refine tk_perm _ mv4 ?_; refine tk_perm _ mv2 ?_; refine tk_perm _ mv4 ?_; refine tk_perm _ mv4 ?_
  exact tk_ret (()) (trivial) (.inr rfl) (r0 rfl) (List.Sublist.refl _)
theorem fine_spec {w : World} : Spec Tryz.prog 174 [] w [] (fun _ : Unit => True) (fun _ => I 0) (fun _ => []) := by
  refine spec_of (n := 1) Tryz.func174 rfl rfl trivial trivial rfl ?_; refine s_r ?_; refine s_q rfl (y_assign rfl) ?_; refine s_n ?_; refine s_r ?_; refine s_q rfl (y_assign rfl) ?_; refine s_n ?_; refine tk_retc ?_
  exact tk_ret (()) (trivial) (.inl rfl) (r1 rfl rfl) (List.Sublist.refl _)
theorem nopS_spec {w : World} : Spec Tryz.prog 175 [] w [] (fun _ : Unit => True) (fun _ => .tuple #[]) (fun _ => []) := by
  refine spec_of (n := 0) Tryz.func175 rfl rfl trivial trivial rfl ?_; refine tk_skip ?_
  exact tk_ret (()) (trivial) (.inr rfl) (r0 rfl) (List.Sublist.refl _)
theorem nopN_spec {w : World} : Spec Tryz.prog 178 [] w [] (fun _ : Unit => True) (fun _ => .tuple #[]) (fun _ => []) := by
  refine spec_of (n := 0) Tryz.func178 rfl rfl trivial trivial rfl ?_; refine tk_skip ?_
  exact tk_ret (()) (trivial) (.inr rfl) (r0 rfl) (List.Sublist.refl _)
theorem chRen_spec {s : Sh} {q : Sh × Nat} {sb mb c0 c1 c2 : Nat} {na nb : List UInt8} {w : World} (hq : s.ren na nb = q) (hok : ShOk s) (hnb : nb.length < 9223372036854775808) (hh : Pre w [cel sb ([Value.map (some mb), I (s.left), .bool s.off, I (s.made), I (s.room)]) 192, mapS mb (kvO s.obs), bag (s.obs.map (obR 5)), cel c0 ([Value.pointer (some ⟨sb, 0, none⟩)]) 72, cel c1 ([Str na]) 9, cel c2 ([Str nb]) 9]) : Spec Tryz.prog 140 [.pointer (some ⟨sb, 0, none⟩), .func (.func 176) #[] #[.pointer (some ⟨c0, 0, none⟩), .pointer (some ⟨c1, 0, none⟩), .pointer (some ⟨c2, 0, none⟩)], .func (.func 177) #[] #[.pointer (some ⟨c0, 0, none⟩), .pointer (some ⟨c1, 0, none⟩), .pointer (some ⟨c2, 0, none⟩)]] w [cel sb ([Value.map (some mb), I (s.left), .bool s.off, I (s.made), I (s.room)]) 192, mapS mb (kvO s.obs), bag (s.obs.map (obR 5)), cel c0 ([Value.pointer (some ⟨sb, 0, none⟩)]) 72, cel c1 ([Str na]) 9, cel c2 ([Str nb]) 9] (fun _ : Unit => True) (fun _ => I ((q.2 : Nat) : Int)) (fun _ => [cel sb ([Value.map (some mb), I (q.1.left), .bool q.1.off, I (q.1.made), I (q.1.room)]) 192, mapS mb (kvO q.1.obs), bag (q.1.obs.map (obR 5))]) := by
  refine spec_of (n := 30) Tryz.func140 rfl rfl hh.1 hh.2 rfl ?_
  have hoff : ∀ h : Bool, Value.bool h = Value.bool (decide (h = true)) := fun h => by simp
  refine s_r ?_; refine s_q rfl (y_assign rfl) ?_; refine s_n ?_; refine tk_seq ?_; refine s_r ?_; refine s_q rfl (y_move rfl) ?_; refine s_q rfl (y_pnil rfl rfl rfl) ?_; refine s_n ?_; refine tk_cond0 rfl ?_; refine tk_skip ?_; refine tk_then ?_; refine tk_seq ?_; refine s_r ?_; refine s_q rfl (y_move rfl) ?_; refine s_q rfl (y_nilCheck rfl) ?_; refine s_q rfl (y_fldN (o := 0) 1 rfl (by kernel_rfl)) ?_
  refine s_q rfl (y_fldN (o := 1) 1 rfl (by kernel_rfl)) ?_; refine tk_qe (.bool (decide (s.off = true))) rfl rfl rfl (y_load rfl rfl (hc (o := 2) (.head _) (rfl))) (by simp) ?_; refine s_n ?_; refine tk_condP rfl (fun ht15 => ?_) (fun ht15 => ?_)
  · skip
    refine s_r ?_; refine s_q rfl (y_assign rfl) ?_; refine s_n ?_; refine tk_retc ?_; refine tk_then_ret ?_
    obtain rfl : (s, 9) = q := by rw [← hq]; exact Eq.symm (change_off ht15)
    exact tk_ret (()) (trivial) (.inl rfl) (r1 rfl rfl) (.cons_cons _ (.cons_cons _ (.cons_cons _ (List.nil_sublist _))))
  · skip
    refine tk_skip ?_; refine tk_then ?_; refine tk_seq ?_; refine s_r ?_; refine s_q rfl (y_move rfl) ?_; refine tk_act rfl ?_; refine a_callc [] _ rfl rfl (by kernel_rfl) rfl (fun w' hw' => ren1_spec (s := s) hok hnb (St.pre hw')) rfl fun _ _ => ?_; refine s_q rfl (y_assign rfl) ?_; refine s_n ?_; refine s_r ?_; refine s_q rfl (y_move rfl) ?_; refine s_q rfl (y_neq rfl rfl) ?_; refine s_n ?_; refine tk_condP rfl (fun ht19 => ?_) (fun ht19 => ?_)
    · skip
      refine s_r ?_; refine s_q rfl (y_move rfl) ?_; refine s_q rfl (y_assign rfl) ?_; refine s_n ?_; refine tk_retc ?_; refine tk_then_ret ?_
      obtain rfl : (s, renC s na nb) = q := by rw [← hq]; exact Eq.symm (change_no ht15 (by omega))
      exact tk_ret (()) (trivial) (.inl rfl) (r1 rfl rfl) (.cons_cons _ (.cons_cons _ (.cons_cons _ (List.nil_sublist _))))
    · skip
      refine tk_skip ?_; refine tk_then ?_; refine tk_seq ?_; refine s_r ?_; refine s_q rfl (y_move rfl) ?_; refine s_q rfl (y_nilCheck rfl) ?_; refine s_q rfl (y_fldN (o := 0) 1 rfl (by kernel_rfl)) ?_; refine tk_act rfl ?_; refine a_callv [] _ rfl (by kernel_rfl) rfl (fun w' hw' => spend_spec (s := s) (sb := sb) (mb := mb) hok (St.pre hw')) rfl fun _ _ => ?_; refine tk_H [cel sb ([Value.map (some mb), I (s.spend.1.left), .bool s.spend.1.off, I (s.spend.1.made), I (s.spend.1.room)]) 192, mapS mb (kvO s.spend.1.obs), bag (s.obs.map (obR 5)), cel c0 ([Value.pointer (some ⟨sb, 0, none⟩)]) 72, cel c1 ([Str na]) 9, cel c2 ([Str nb]) 9] (congrArg (fun z_ => [cel sb ([Value.map (some mb), I (s.spend.1.left), .bool s.spend.1.off, I (s.spend.1.made), I (s.spend.1.room)]) 192, z_, bag (s.obs.map (obR 5)), cel c0 ([Value.pointer (some ⟨sb, 0, none⟩)]) 72, cel c1 ([Str na]) 9, cel c2 ([Str nb]) 9]) (show mapS mb (kvO s.obs) = mapS mb (kvO s.spend.1.obs) from mapS_cast (by rw [spend_obs.1]))) ?_
      refine tk_H [cel sb ([Value.map (some mb), I (s.spend.1.left), .bool s.spend.1.off, I (s.spend.1.made), I (s.spend.1.room)]) 192, mapS mb (kvO s.spend.1.obs), bag (s.spend.1.obs.map (obR 5)), cel c0 ([Value.pointer (some ⟨sb, 0, none⟩)]) 72, cel c1 ([Str na]) 9, cel c2 ([Str nb]) 9] (congrArg (fun z_ => [cel sb ([Value.map (some mb), I (s.spend.1.left), .bool s.spend.1.off, I (s.spend.1.made), I (s.spend.1.room)]) 192, mapS mb (kvO s.spend.1.obs), z_, cel c0 ([Value.pointer (some ⟨sb, 0, none⟩)]) 72, cel c1 ([Str na]) 9, cel c2 ([Str nb]) 9]) (show bag (s.obs.map (obR 5)) = bag (s.spend.1.obs.map (obR 5)) from bag_cast (by rw [spend_obs.1]))) ?_
      refine s_q rfl (y_assign rfl) ?_; refine s_n ?_; refine s_r ?_; refine s_q rfl (y_move rfl) ?_; refine s_q rfl (y_neq rfl rfl) ?_; refine s_n ?_; refine tk_condP rfl (fun ht26 => ?_) (fun ht26 => ?_)
      · skip
        refine s_r ?_; refine s_q rfl (y_move rfl) ?_; refine s_q rfl (y_assign rfl) ?_; refine s_n ?_; refine tk_retc ?_; refine tk_then_ret ?_
        obtain rfl : s.spend = q := by rw [← hq]; exact Eq.symm (change_sp ht15 (by omega) (by omega))
        exact tk_ret (()) (trivial) (.inl rfl) (r1 rfl rfl) (.cons_cons _ (.cons_cons _ (.cons_cons _ (List.nil_sublist _))))
      · skip
        refine tk_skip ?_; refine tk_then ?_; refine s_r ?_; refine s_q rfl (y_move rfl) ?_; refine tk_act rfl ?_; refine a_callc [] _ rfl rfl (by kernel_rfl) rfl (fun w' hw' => ren2_spec (s := s.spend.1) (by rw [spend_obs.1]; exact hok.nodup) (by rw [spend_obs.1]; exact (renC_ok (s := s) (a := na) (b := nb) (by omega)).2.1) (by rw [spend_obs.1]; exact (renC_ok (s := s) (a := na) (b := nb) (by omega)).2.2) (St.pre hw')) rfl fun _ _ => ?_
        refine s_n ?_; refine s_r ?_; refine s_q rfl (y_assign rfl) ?_; refine s_n ?_; refine tk_retc ?_
        obtain rfl : (s.spend.1.obsTo (delO s.spend.1.obs na ++ [nameTo (lkO s.spend.1.obs na) nb]), 0) = q := by rw [← hq]; exact Eq.symm (change_ok ht15 (by omega) (by omega))
        exact tk_ret (()) (trivial) (.inl rfl) (r1 rfl rfl) (.cons_cons _ (.cons_cons _ (.cons_cons _ (List.nil_sublist _))))
theorem chDel_spec {s : Sh} {q : Sh × Nat} {sb mb c0 c1 : Nat} {na : List UInt8} {w : World} (hq : s.del na = q) (hok : ShOk s) (hh : Pre w [cel sb ([Value.map (some mb), I (s.left), .bool s.off, I (s.made), I (s.room)]) 192, mapS mb (kvO s.obs), bag (s.obs.map (obR 5)), cel c0 ([Value.pointer (some ⟨sb, 0, none⟩)]) 72, cel c1 ([Str na]) 9]) : Spec Tryz.prog 140 [.pointer (some ⟨sb, 0, none⟩), .func (.func 141) #[] #[.pointer (some ⟨c0, 0, none⟩), .pointer (some ⟨c1, 0, none⟩)], .func (.func 142) #[] #[.pointer (some ⟨c0, 0, none⟩), .pointer (some ⟨c1, 0, none⟩)]] w [cel sb ([Value.map (some mb), I (s.left), .bool s.off, I (s.made), I (s.room)]) 192, mapS mb (kvO s.obs), bag (s.obs.map (obR 5)), cel c0 ([Value.pointer (some ⟨sb, 0, none⟩)]) 72, cel c1 ([Str na]) 9] (fun _ : Unit => True) (fun _ => I ((q.2 : Nat) : Int)) (fun _ => [cel sb ([Value.map (some mb), I (q.1.left), .bool q.1.off, I (q.1.made), I (q.1.room)]) 192, mapS mb (kvO q.1.obs), bag (q.1.obs.map (obR 5))]) := by
  refine spec_of (n := 30) Tryz.func140 rfl rfl hh.1 hh.2 rfl ?_
  have hoff : ∀ h : Bool, Value.bool h = Value.bool (decide (h = true)) := fun h => by simp
  refine s_r ?_; refine s_q rfl (y_assign rfl) ?_; refine s_n ?_; refine tk_seq ?_; refine s_r ?_; refine s_q rfl (y_move rfl) ?_; refine s_q rfl (y_pnil rfl rfl rfl) ?_; refine s_n ?_; refine tk_cond0 rfl ?_; refine tk_skip ?_; refine tk_then ?_; refine tk_seq ?_; refine s_r ?_; refine s_q rfl (y_move rfl) ?_; refine s_q rfl (y_nilCheck rfl) ?_; refine s_q rfl (y_fldN (o := 0) 1 rfl (by kernel_rfl)) ?_
  refine s_q rfl (y_fldN (o := 1) 1 rfl (by kernel_rfl)) ?_; refine tk_qe (.bool (decide (s.off = true))) rfl rfl rfl (y_load rfl rfl (hc (o := 2) (.head _) (rfl))) (by simp) ?_; refine s_n ?_; refine tk_condP rfl (fun ht15 => ?_) (fun ht15 => ?_)
  · skip
    refine s_r ?_; refine s_q rfl (y_assign rfl) ?_; refine s_n ?_; refine tk_retc ?_; refine tk_then_ret ?_
    obtain rfl : (s, 9) = q := by rw [← hq]; exact Eq.symm (change_off ht15)
    exact tk_ret (()) (trivial) (.inl rfl) (r1 rfl rfl) (.cons_cons _ (.cons_cons _ (.cons_cons _ (List.nil_sublist _))))
  · skip
    refine tk_skip ?_; refine tk_then ?_; refine tk_seq ?_; refine s_r ?_; refine s_q rfl (y_move rfl) ?_; refine tk_act rfl ?_; refine a_callc [] _ rfl rfl (by kernel_rfl) rfl (fun w' hw' => del1_spec (s := s) hok (St.pre hw')) rfl fun _ _ => ?_; refine s_q rfl (y_assign rfl) ?_; refine s_n ?_; refine s_r ?_; refine s_q rfl (y_move rfl) ?_; refine s_q rfl (y_neq rfl rfl) ?_; refine s_n ?_; refine tk_condP rfl (fun ht19 => ?_) (fun ht19 => ?_)
    · skip
      refine s_r ?_; refine s_q rfl (y_move rfl) ?_; refine s_q rfl (y_assign rfl) ?_; refine s_n ?_; refine tk_retc ?_; refine tk_then_ret ?_
      obtain rfl : (s, delC s na) = q := by rw [← hq]; exact Eq.symm (change_no ht15 (by omega))
      exact tk_ret (()) (trivial) (.inl rfl) (r1 rfl rfl) (.cons_cons _ (.cons_cons _ (.cons_cons _ (List.nil_sublist _))))
    · skip
      refine tk_skip ?_; refine tk_then ?_; refine tk_seq ?_; refine s_r ?_; refine s_q rfl (y_move rfl) ?_; refine s_q rfl (y_nilCheck rfl) ?_; refine s_q rfl (y_fldN (o := 0) 1 rfl (by kernel_rfl)) ?_; refine tk_act rfl ?_; refine a_callv [] _ rfl (by kernel_rfl) rfl (fun w' hw' => spend_spec (s := s) (sb := sb) (mb := mb) hok (St.pre hw')) rfl fun _ _ => ?_; refine tk_H [cel sb ([Value.map (some mb), I (s.spend.1.left), .bool s.spend.1.off, I (s.spend.1.made), I (s.spend.1.room)]) 192, mapS mb (kvO s.spend.1.obs), bag (s.obs.map (obR 5)), cel c0 ([Value.pointer (some ⟨sb, 0, none⟩)]) 72, cel c1 ([Str na]) 9] (congrArg (fun z_ => [cel sb ([Value.map (some mb), I (s.spend.1.left), .bool s.spend.1.off, I (s.spend.1.made), I (s.spend.1.room)]) 192, z_, bag (s.obs.map (obR 5)), cel c0 ([Value.pointer (some ⟨sb, 0, none⟩)]) 72, cel c1 ([Str na]) 9]) (show mapS mb (kvO s.obs) = mapS mb (kvO s.spend.1.obs) from mapS_cast (by rw [spend_obs.1]))) ?_
      refine tk_H [cel sb ([Value.map (some mb), I (s.spend.1.left), .bool s.spend.1.off, I (s.spend.1.made), I (s.spend.1.room)]) 192, mapS mb (kvO s.spend.1.obs), bag (s.spend.1.obs.map (obR 5)), cel c0 ([Value.pointer (some ⟨sb, 0, none⟩)]) 72, cel c1 ([Str na]) 9] (congrArg (fun z_ => [cel sb ([Value.map (some mb), I (s.spend.1.left), .bool s.spend.1.off, I (s.spend.1.made), I (s.spend.1.room)]) 192, mapS mb (kvO s.spend.1.obs), z_, cel c0 ([Value.pointer (some ⟨sb, 0, none⟩)]) 72, cel c1 ([Str na]) 9]) (show bag (s.obs.map (obR 5)) = bag (s.spend.1.obs.map (obR 5)) from bag_cast (by rw [spend_obs.1]))) ?_
      refine s_q rfl (y_assign rfl) ?_; refine s_n ?_; refine s_r ?_; refine s_q rfl (y_move rfl) ?_; refine s_q rfl (y_neq rfl rfl) ?_; refine s_n ?_; refine tk_condP rfl (fun ht26 => ?_) (fun ht26 => ?_)
      · skip
        refine s_r ?_; refine s_q rfl (y_move rfl) ?_; refine s_q rfl (y_assign rfl) ?_; refine s_n ?_; refine tk_retc ?_; refine tk_then_ret ?_
        obtain rfl : s.spend = q := by rw [← hq]; exact Eq.symm (change_sp ht15 (by omega) (by omega))
        exact tk_ret (()) (trivial) (.inl rfl) (r1 rfl rfl) (.cons_cons _ (.cons_cons _ (.cons_cons _ (List.nil_sublist _))))
      · skip
        refine tk_skip ?_; refine tk_then ?_; refine s_r ?_; refine s_q rfl (y_move rfl) ?_; refine tk_act rfl ?_; refine a_callc [] _ rfl rfl (by kernel_rfl) rfl (fun w' hw' => del2_spec (s := s.spend.1)  (St.pre hw')) rfl fun _ _ => ?_; refine s_n ?_; refine s_r ?_; refine s_q rfl (y_assign rfl) ?_; refine s_n ?_; refine tk_retc ?_
        obtain rfl : (s.spend.1.obsTo (delO s.spend.1.obs na), 0) = q := by rw [← hq]; exact Eq.symm (change_ok ht15 (by omega) (by omega))
        exact tk_ret (()) (trivial) (.inl rfl) (r1 rfl rfl) (.cons_cons _ (.cons_cons _ (.cons_cons _ (List.nil_sublist _))))
theorem chSyn_spec {s : Sh} {q : Sh × Nat} {sb mb : Nat} {w : World} (hq : s.nudge = q) (hok : ShOk s) (hh : Pre w [cel sb ([Value.map (some mb), I (s.left), .bool s.off, I (s.made), I (s.room)]) 192, mapS mb (kvO s.obs), bag (s.obs.map (obR 5))]) : Spec Tryz.prog 140 [.pointer (some ⟨sb, 0, none⟩), .func (.func 174) #[] #[], .func (.func 175) #[] #[]] w [cel sb ([Value.map (some mb), I (s.left), .bool s.off, I (s.made), I (s.room)]) 192, mapS mb (kvO s.obs), bag (s.obs.map (obR 5))] (fun _ : Unit => True) (fun _ => I ((q.2 : Nat) : Int)) (fun _ => [cel sb ([Value.map (some mb), I (q.1.left), .bool q.1.off, I (q.1.made), I (q.1.room)]) 192, mapS mb (kvO q.1.obs), bag (q.1.obs.map (obR 5))]) := by
  refine spec_of (n := 30) Tryz.func140 rfl rfl hh.1 hh.2 rfl ?_
  have hoff : ∀ h : Bool, Value.bool h = Value.bool (decide (h = true)) := fun h => by simp
  refine s_r ?_; refine s_q rfl (y_assign rfl) ?_; refine s_n ?_; refine tk_seq ?_; refine s_r ?_; refine s_q rfl (y_move rfl) ?_; refine s_q rfl (y_pnil rfl rfl rfl) ?_; refine s_n ?_; refine tk_cond0 rfl ?_; refine tk_skip ?_; refine tk_then ?_; refine tk_seq ?_; refine s_r ?_; refine s_q rfl (y_move rfl) ?_; refine s_q rfl (y_nilCheck rfl) ?_; refine s_q rfl (y_fldN (o := 0) 1 rfl (by kernel_rfl)) ?_
  refine s_q rfl (y_fldN (o := 1) 1 rfl (by kernel_rfl)) ?_; refine tk_qe (.bool (decide (s.off = true))) rfl rfl rfl (y_load rfl rfl (hc (o := 2) (.head _) (rfl))) (by simp) ?_; refine s_n ?_; refine tk_condP rfl (fun ht15 => ?_) (fun ht15 => ?_)
  · skip
    refine s_r ?_; refine s_q rfl (y_assign rfl) ?_; refine s_n ?_; refine tk_retc ?_; refine tk_then_ret ?_
    obtain rfl : (s, 9) = q := by rw [← hq]; exact Eq.symm (change_off ht15)
    exact tk_ret (()) (trivial) (.inl rfl) (r1 rfl rfl) (List.Sublist.refl _)
  · skip
    refine tk_skip ?_; refine tk_then ?_; refine tk_seq ?_; refine s_r ?_; refine s_q rfl (y_move rfl) ?_; refine tk_act rfl ?_; refine a_callc [] _ rfl rfl (by kernel_rfl) rfl (fun w' hw' => fine_spec) rfl fun _ _ => ?_; refine s_q rfl (y_assign rfl) ?_; refine s_n ?_; refine s_r ?_; refine s_q rfl (y_move rfl) ?_; refine s_q rfl ((y_neq rfl rfl).cast (bool_f (by decide))) ?_; refine s_n ?_; refine tk_cond0 rfl ?_
    refine tk_skip ?_; refine tk_then ?_; refine tk_seq ?_; refine s_r ?_; refine s_q rfl (y_move rfl) ?_; refine s_q rfl (y_nilCheck rfl) ?_; refine s_q rfl (y_fldN (o := 0) 1 rfl (by kernel_rfl)) ?_; refine tk_act rfl ?_; refine a_callv [] _ rfl (by kernel_rfl) rfl (fun w' hw' => spend_spec (s := s) (sb := sb) (mb := mb) hok (St.pre hw')) rfl fun _ _ => ?_; refine tk_H [cel sb ([Value.map (some mb), I (s.spend.1.left), .bool s.spend.1.off, I (s.spend.1.made), I (s.spend.1.room)]) 192, mapS mb (kvO s.spend.1.obs), bag (s.obs.map (obR 5))] (congrArg (fun z_ => [cel sb ([Value.map (some mb), I (s.spend.1.left), .bool s.spend.1.off, I (s.spend.1.made), I (s.spend.1.room)]) 192, z_, bag (s.obs.map (obR 5))]) (show mapS mb (kvO s.obs) = mapS mb (kvO s.spend.1.obs) from mapS_cast (by rw [spend_obs.1]))) ?_
    refine tk_H [cel sb ([Value.map (some mb), I (s.spend.1.left), .bool s.spend.1.off, I (s.spend.1.made), I (s.spend.1.room)]) 192, mapS mb (kvO s.spend.1.obs), bag (s.spend.1.obs.map (obR 5))] (congrArg (fun z_ => [cel sb ([Value.map (some mb), I (s.spend.1.left), .bool s.spend.1.off, I (s.spend.1.made), I (s.spend.1.room)]) 192, mapS mb (kvO s.spend.1.obs), z_]) (show bag (s.obs.map (obR 5)) = bag (s.spend.1.obs.map (obR 5)) from bag_cast (by rw [spend_obs.1]))) ?_
    refine s_q rfl (y_assign rfl) ?_; refine s_n ?_; refine s_r ?_; refine s_q rfl (y_move rfl) ?_; refine s_q rfl (y_neq rfl rfl) ?_; refine s_n ?_; refine tk_condP rfl (fun ht26 => ?_) (fun ht26 => ?_)
    · skip
      refine s_r ?_; refine s_q rfl (y_move rfl) ?_; refine s_q rfl (y_assign rfl) ?_; refine s_n ?_; refine tk_retc ?_; refine tk_then_ret ?_
      obtain rfl : s.spend = q := by rw [← hq]; exact Eq.symm (change_sp ht15 (by omega) (by omega))
      exact tk_ret (()) (trivial) (.inl rfl) (r1 rfl rfl) (List.Sublist.refl _)
    · skip
      refine tk_skip ?_; refine tk_then ?_; refine s_r ?_; refine s_q rfl (y_move rfl) ?_; refine tk_act rfl ?_; refine a_callc [] _ rfl rfl (by kernel_rfl) rfl (fun w' hw' => nopS_spec) rfl fun _ _ => ?_; refine s_n ?_; refine s_r ?_; refine s_q rfl (y_assign rfl) ?_; refine s_n ?_; refine tk_retc ?_
      obtain rfl : (s.spend.1, 0) = q := by rw [← hq]; exact Eq.symm (change_ok ht15 (by omega) (by omega))
      exact tk_ret (()) (trivial) (.inl rfl) (r1 rfl rfl) (List.Sublist.refl _)
theorem chNud_spec {s : Sh} {q : Sh × Nat} {sb mb : Nat} {w : World} (hq : s.nudge = q) (hok : ShOk s) (hh : Pre w [cel sb ([Value.map (some mb), I (s.left), .bool s.off, I (s.made), I (s.room)]) 192, mapS mb (kvO s.obs), bag (s.obs.map (obR 5))]) : Spec Tryz.prog 140 [.pointer (some ⟨sb, 0, none⟩), .func (.func 174) #[] #[], .func (.func 178) #[] #[]] w [cel sb ([Value.map (some mb), I (s.left), .bool s.off, I (s.made), I (s.room)]) 192, mapS mb (kvO s.obs), bag (s.obs.map (obR 5))] (fun _ : Unit => True) (fun _ => I ((q.2 : Nat) : Int)) (fun _ => [cel sb ([Value.map (some mb), I (q.1.left), .bool q.1.off, I (q.1.made), I (q.1.room)]) 192, mapS mb (kvO q.1.obs), bag (q.1.obs.map (obR 5))]) := by
  refine spec_of (n := 30) Tryz.func140 rfl rfl hh.1 hh.2 rfl ?_
  have hoff : ∀ h : Bool, Value.bool h = Value.bool (decide (h = true)) := fun h => by simp
  refine s_r ?_; refine s_q rfl (y_assign rfl) ?_; refine s_n ?_; refine tk_seq ?_; refine s_r ?_; refine s_q rfl (y_move rfl) ?_; refine s_q rfl (y_pnil rfl rfl rfl) ?_; refine s_n ?_; refine tk_cond0 rfl ?_; refine tk_skip ?_; refine tk_then ?_; refine tk_seq ?_; refine s_r ?_; refine s_q rfl (y_move rfl) ?_; refine s_q rfl (y_nilCheck rfl) ?_; refine s_q rfl (y_fldN (o := 0) 1 rfl (by kernel_rfl)) ?_
  refine s_q rfl (y_fldN (o := 1) 1 rfl (by kernel_rfl)) ?_; refine tk_qe (.bool (decide (s.off = true))) rfl rfl rfl (y_load rfl rfl (hc (o := 2) (.head _) (rfl))) (by simp) ?_; refine s_n ?_; refine tk_condP rfl (fun ht15 => ?_) (fun ht15 => ?_)
  · skip
    refine s_r ?_; refine s_q rfl (y_assign rfl) ?_; refine s_n ?_; refine tk_retc ?_; refine tk_then_ret ?_
    obtain rfl : (s, 9) = q := by rw [← hq]; exact Eq.symm (change_off ht15)
    exact tk_ret (()) (trivial) (.inl rfl) (r1 rfl rfl) (List.Sublist.refl _)
  · skip
    refine tk_skip ?_; refine tk_then ?_; refine tk_seq ?_; refine s_r ?_; refine s_q rfl (y_move rfl) ?_; refine tk_act rfl ?_; refine a_callc [] _ rfl rfl (by kernel_rfl) rfl (fun w' hw' => fine_spec) rfl fun _ _ => ?_; refine s_q rfl (y_assign rfl) ?_; refine s_n ?_; refine s_r ?_; refine s_q rfl (y_move rfl) ?_; refine s_q rfl ((y_neq rfl rfl).cast (bool_f (by decide))) ?_; refine s_n ?_; refine tk_cond0 rfl ?_
    refine tk_skip ?_; refine tk_then ?_; refine tk_seq ?_; refine s_r ?_; refine s_q rfl (y_move rfl) ?_; refine s_q rfl (y_nilCheck rfl) ?_; refine s_q rfl (y_fldN (o := 0) 1 rfl (by kernel_rfl)) ?_; refine tk_act rfl ?_; refine a_callv [] _ rfl (by kernel_rfl) rfl (fun w' hw' => spend_spec (s := s) (sb := sb) (mb := mb) hok (St.pre hw')) rfl fun _ _ => ?_; refine tk_H [cel sb ([Value.map (some mb), I (s.spend.1.left), .bool s.spend.1.off, I (s.spend.1.made), I (s.spend.1.room)]) 192, mapS mb (kvO s.spend.1.obs), bag (s.obs.map (obR 5))] (congrArg (fun z_ => [cel sb ([Value.map (some mb), I (s.spend.1.left), .bool s.spend.1.off, I (s.spend.1.made), I (s.spend.1.room)]) 192, z_, bag (s.obs.map (obR 5))]) (show mapS mb (kvO s.obs) = mapS mb (kvO s.spend.1.obs) from mapS_cast (by rw [spend_obs.1]))) ?_
    refine tk_H [cel sb ([Value.map (some mb), I (s.spend.1.left), .bool s.spend.1.off, I (s.spend.1.made), I (s.spend.1.room)]) 192, mapS mb (kvO s.spend.1.obs), bag (s.spend.1.obs.map (obR 5))] (congrArg (fun z_ => [cel sb ([Value.map (some mb), I (s.spend.1.left), .bool s.spend.1.off, I (s.spend.1.made), I (s.spend.1.room)]) 192, mapS mb (kvO s.spend.1.obs), z_]) (show bag (s.obs.map (obR 5)) = bag (s.spend.1.obs.map (obR 5)) from bag_cast (by rw [spend_obs.1]))) ?_
    refine s_q rfl (y_assign rfl) ?_; refine s_n ?_; refine s_r ?_; refine s_q rfl (y_move rfl) ?_; refine s_q rfl (y_neq rfl rfl) ?_; refine s_n ?_; refine tk_condP rfl (fun ht26 => ?_) (fun ht26 => ?_)
    · skip
      refine s_r ?_; refine s_q rfl (y_move rfl) ?_; refine s_q rfl (y_assign rfl) ?_; refine s_n ?_; refine tk_retc ?_; refine tk_then_ret ?_
      obtain rfl : s.spend = q := by rw [← hq]; exact Eq.symm (change_sp ht15 (by omega) (by omega))
      exact tk_ret (()) (trivial) (.inl rfl) (r1 rfl rfl) (List.Sublist.refl _)
    · skip
      refine tk_skip ?_; refine tk_then ?_; refine s_r ?_; refine s_q rfl (y_move rfl) ?_; refine tk_act rfl ?_; refine a_callc [] _ rfl rfl (by kernel_rfl) rfl (fun w' hw' => nopN_spec) rfl fun _ _ => ?_; refine s_n ?_; refine s_r ?_; refine s_q rfl (y_assign rfl) ?_; refine s_n ?_; refine tk_retc ?_
      obtain rfl : (s.spend.1, 0) = q := by rw [← hq]; exact Eq.symm (change_ok ht15 (by omega) (by omega))
      exact tk_ret (()) (trivial) (.inl rfl) (r1 rfl rfl) (List.Sublist.refl _)
theorem put_spec {s : Sh} {sb mb : Nat} {v : Value} {ps : List Sb} {nm b : List UInt8} {w : World} (hok : ShOk s) (hnm : nm.length < 9223372036854775808) (hbl : b.length < 4294967296 ∧ ps.length < 4294967296) (hv : Ro (Fs [cel sb ([Value.map (some mb), I (s.left), .bool s.off, I (s.made), I (s.room)]) 192, mapS mb (kvO s.obs), bag (s.obs.map (obR 5))]) w (rd v (ps.map Prod.fst))) (hp : ∀ p ∈ ps, Ro (Fs [cel sb ([Value.map (some mb), I (s.left), .bool s.off, I (s.made), I (s.room)]) 192, mapS mb (kvO s.obs), bag (s.obs.map (obR 5))]) w (rdB p.1 p.2)) (hL : ps.flatMap Prod.snd = b) (hh : Pre w [cel sb ([Value.map (some mb), I (s.left), .bool s.off, I (s.made), I (s.room)]) 192, mapS mb (kvO s.obs), bag (s.obs.map (obR 5))]) :
    Spec Tryz.prog 134 [.pointer (some ⟨sb, 0, none⟩), Str nm, v] w [cel sb ([Value.map (some mb), I (s.left), .bool s.off, I (s.made), I (s.room)]) 192, mapS mb (kvO s.obs), bag (s.obs.map (obR 5))] (fun _ : Value => True) (fun x => I (((s.put nm x b).2 : Nat) : Int)) (fun x => [cel sb ([Value.map (some mb), I ((s.put nm x b).1.left), .bool ((s.put nm x b).1.off), I ((s.put nm x b).1.made), I ((s.put nm x b).1.room)]) 192, mapS mb (kvO ((s.put nm x b).1.obs)), bag (((s.put nm x b).1.obs).map (obR 5))]) := by
  refine spec_of (n := 14) Tryz.func134 rfl rfl hh.1 hh.2 rfl ?_
  have hLl := congrArg List.length hL
  refine s_r ?_; refine tk_act rfl ?_; refine a_box1 rfl rfl rfl fun b3 => ?_; refine tk_act rfl ?_; refine a_box1 rfl rfl rfl fun b4 => ?_; refine s_q rfl (y_assign rfl) ?_; refine s_n ?_; refine s_r ?_; refine s_q rfl (y_move rfl) ?_; refine tk_act rfl ?_; refine a_callv [] _ rfl (by kernel_rfl) rfl (fun w' hw' => concat_spec (ps := ps) (L := ps.flatMap Prod.snd) (Ro.call hv hw') (fun p hp0 => (hp p hp0).call hw') (by simp) ⟨lenP, lenP⟩) rfl fun v9 _ => ?_
  refine tk_H [own v9 b.length (b.map B) 5 1, cel b4 ([Str nm]) 9, cel b3 ([Value.pointer (some ⟨sb, 0, none⟩)]) 72, cel sb ([Value.map (some mb), I (s.left), .bool s.off, I (s.made), I (s.room)]) 192, mapS mb (kvO s.obs), bag (s.obs.map (obR 5))] (congrArg (fun z_ => [z_, cel b4 ([Str nm]) 9, cel b3 ([Value.pointer (some ⟨sb, 0, none⟩)]) 72, cel sb ([Value.map (some mb), I (s.left), .bool s.off, I (s.made), I (s.room)]) 192, mapS mb (kvO s.obs), bag (s.obs.map (obR 5))]) (show own v9 ((ps.flatMap Prod.snd).length) ((ps.flatMap Prod.snd).map B) 5 1 = own v9 b.length (b.map B) 5 1 from ownM_cast hL)) ?_
  refine tk_own1 (.head _) fun hfb => ?_; refine tk_act rfl ?_; refine a_alloc1 (v := .slice none 0 0) (by kernel_rfl) rfl rfl fun b7 => ?_; refine tk_act rfl ?_; refine a_storeE (H1 := []) (o := 0) (v := v9) (cs' := [v9]) rfl rfl (by kernel_rfl) (RdS.one hfb.choose_spec) rfl (by first | (simp; done) | (simp; omega)) (rfl) ?_; refine s_n ?_; refine s_r ?_; refine s_q rfl (y_load rfl rfl (hc (o := 0) (.tail _ (.tail _ (.tail _ (.head _)))) (rfl))) ?_
  refine s_q rfl (y_makeFunc (cs := [.pointer (some ⟨b3, 0, none⟩), .pointer (some ⟨b4, 0, none⟩), .pointer (some ⟨b7, 0, none⟩)]) rfl) ?_; refine s_q rfl (y_makeFunc (cs := [.pointer (some ⟨b7, 0, none⟩), .pointer (some ⟨b3, 0, none⟩), .pointer (some ⟨b4, 0, none⟩)]) rfl) ?_; refine tk_act rfl ?_; refine tk_perm _ mv1 ?_; refine tk_perm _ mv1 ?_; refine tk_perm _ mv2 ?_; refine tk_perm _ mv3 ?_; refine tk_perm _ mv6 ?_
  refine tk_perm _ mv6 ?_; refine tk_perm _ mv6 ?_; refine a_callv [] _ rfl (by kernel_rfl) rfl (fun w' hw' => chPut_spec (s := s) (q := (s.put nm v9 b)) (c0 := b3) (c1 := b4) (c2 := b7) (vv := v9) (nm := nm) (b := b) rfl hok lenP lenP (St.pre hw')) rfl fun _ _ => ?_; refine s_q rfl (y_assign rfl) ?_; refine s_n ?_; refine tk_retc ?_
  exact tk_ret (v9) (trivial) (.inl rfl) (r1 rfl rfl) (List.Sublist.refl _)
theorem ren_spec {s : Sh} {sb mb : Nat} {na nb : List UInt8} {w : World} (hok : ShOk s) (hnb : nb.length < 9223372036854775808) (hh : Pre w [cel sb ([Value.map (some mb), I (s.left), .bool s.off, I (s.made), I (s.room)]) 192, mapS mb (kvO s.obs), bag (s.obs.map (obR 5))]) : Spec Tryz.prog 136 [.pointer (some ⟨sb, 0, none⟩), Str na, Str nb] w [cel sb ([Value.map (some mb), I (s.left), .bool s.off, I (s.made), I (s.room)]) 192, mapS mb (kvO s.obs), bag (s.obs.map (obR 5))] (fun _ : Unit => True) (fun _ => I (((s.ren na nb).2 : Nat) : Int)) (fun _ => [cel sb ([Value.map (some mb), I ((s.ren na nb).1.left), .bool ((s.ren na nb).1.off), I ((s.ren na nb).1.made), I ((s.ren na nb).1.room)]) 192, mapS mb (kvO ((s.ren na nb).1.obs)), bag (((s.ren na nb).1.obs).map (obR 5))]) := by
  refine spec_of (n := 11) Tryz.func136 rfl rfl hh.1 hh.2 rfl ?_; refine s_r ?_; refine tk_act rfl ?_; refine a_box1 rfl rfl rfl fun b3 => ?_; refine tk_act rfl ?_; refine a_box1 rfl rfl rfl fun b4 => ?_; refine tk_act rfl ?_; refine a_box1 rfl rfl rfl fun b5 => ?_; refine s_q rfl (y_assign rfl) ?_; refine s_n ?_; refine s_r ?_; refine s_q rfl (y_load rfl rfl (hc (o := 0) (.tail _ (.tail _ (.head _))) (rfl))) ?_
  refine s_q rfl (y_makeFunc (cs := [.pointer (some ⟨b3, 0, none⟩), .pointer (some ⟨b4, 0, none⟩), .pointer (some ⟨b5, 0, none⟩)]) rfl) ?_; refine s_q rfl (y_makeFunc (cs := [.pointer (some ⟨b3, 0, none⟩), .pointer (some ⟨b4, 0, none⟩), .pointer (some ⟨b5, 0, none⟩)]) rfl) ?_; refine tk_act rfl ?_; refine tk_perm _ mv1 ?_; refine tk_perm _ mv2 ?_; refine tk_perm _ mv5 ?_; refine tk_perm _ mv5 ?_; refine tk_perm _ mv5 ?_
  refine a_callv [] _ rfl (by kernel_rfl) rfl (fun w' hw' => chRen_spec (s := s) (q := (s.ren na nb)) (c0 := b3) (c1 := b4) (c2 := b5) (na := na) (nb := nb) rfl hok lenP (St.pre hw')) rfl fun _ _ => ?_; refine s_q rfl (y_assign rfl) ?_; refine s_n ?_; refine tk_retc ?_
  exact tk_ret (()) (trivial) (.inl rfl) (r1 rfl rfl) (List.Sublist.refl _)
theorem del_spec {s : Sh} {sb mb : Nat} {na : List UInt8} {w : World} (hok : ShOk s) (hh : Pre w [cel sb ([Value.map (some mb), I (s.left), .bool s.off, I (s.made), I (s.room)]) 192, mapS mb (kvO s.obs), bag (s.obs.map (obR 5))]) : Spec Tryz.prog 91 [.pointer (some ⟨sb, 0, none⟩), Str na] w [cel sb ([Value.map (some mb), I (s.left), .bool s.off, I (s.made), I (s.room)]) 192, mapS mb (kvO s.obs), bag (s.obs.map (obR 5))] (fun _ : Unit => True) (fun _ => I (((s.del na).2 : Nat) : Int)) (fun _ => [cel sb ([Value.map (some mb), I ((s.del na).1.left), .bool ((s.del na).1.off), I ((s.del na).1.made), I ((s.del na).1.room)]) 192, mapS mb (kvO ((s.del na).1.obs)), bag (((s.del na).1.obs).map (obR 5))]) := by
  refine spec_of (n := 9) Tryz.func91 rfl rfl hh.1 hh.2 rfl ?_; refine s_r ?_; refine tk_act rfl ?_; refine a_box1 rfl rfl rfl fun b2 => ?_; refine tk_act rfl ?_; refine a_box1 rfl rfl rfl fun b3 => ?_; refine s_q rfl (y_assign rfl) ?_; refine s_n ?_; refine s_r ?_; refine s_q rfl (y_load rfl rfl (hc (o := 0) (.tail _ (.head _)) (rfl))) ?_; refine s_q rfl (y_makeFunc (cs := [.pointer (some ⟨b2, 0, none⟩), .pointer (some ⟨b3, 0, none⟩)]) rfl) ?_
  refine s_q rfl (y_makeFunc (cs := [.pointer (some ⟨b2, 0, none⟩), .pointer (some ⟨b3, 0, none⟩)]) rfl) ?_; refine tk_act rfl ?_; refine tk_perm _ mv1 ?_; refine tk_perm _ mv4 ?_; refine tk_perm _ mv4 ?_; refine tk_perm _ mv4 ?_; refine a_callv [] _ rfl (by kernel_rfl) rfl (fun w' hw' => chDel_spec (s := s) (q := (s.del na)) (c0 := b2) (c1 := b3) (na := na) rfl hok (St.pre hw')) rfl fun _ _ => ?_
  refine s_q rfl (y_assign rfl) ?_; refine s_n ?_; refine tk_retc ?_
  exact tk_ret (()) (trivial) (.inl rfl) (r1 rfl rfl) (List.Sublist.refl _)
theorem nudge_spec {s : Sh} {sb mb : Nat} {w : World} (hok : ShOk s) (hh : Pre w [cel sb ([Value.map (some mb), I (s.left), .bool s.off, I (s.made), I (s.room)]) 192, mapS mb (kvO s.obs), bag (s.obs.map (obR 5))]) : Spec Tryz.prog 137 [.pointer (some ⟨sb, 0, none⟩)] w [cel sb ([Value.map (some mb), I (s.left), .bool s.off, I (s.made), I (s.room)]) 192, mapS mb (kvO s.obs), bag (s.obs.map (obR 5))] (fun _ : Unit => True) (fun _ => I ((s.nudge.2 : Nat) : Int)) (fun _ => [cel sb ([Value.map (some mb), I (s.nudge.1.left), .bool s.nudge.1.off, I (s.nudge.1.made), I (s.nudge.1.room)]) 192, mapS mb (kvO s.nudge.1.obs), bag (s.nudge.1.obs.map (obR 5))]) := by
  refine spec_of (n := 5) Tryz.func137 rfl rfl hh.1 hh.2 rfl ?_; refine s_r ?_; refine s_q rfl (y_assign rfl) ?_; refine s_n ?_; refine s_r ?_; refine s_q rfl (y_move rfl) ?_; refine tk_act rfl ?_; refine a_callv [] _ rfl (by kernel_rfl) rfl (fun w' hw' => chNud_spec (s := s) (q := s.nudge) rfl hok (St.pre hw')) rfl fun _ _ => ?_; refine s_q rfl (y_assign rfl) ?_; refine s_n ?_; refine tk_retc ?_
  exact tk_ret (()) (trivial) (.inl rfl) (r1 rfl rfl) (List.Sublist.refl _)
theorem sync_q {s : Sh} {q : Sh × Nat} {sb mb : Nat} {nv : Value} {na : List UInt8} {w : World} (hq : s.sync1 na = q) (hok : ShOk s) (hn : Ro (Fs [cel sb ([Value.map (some mb), I (s.left), .bool s.off, I (s.made), I (s.room)]) 192, mapS mb (kvO s.obs), bag (s.obs.map (obR 5))]) w (rd nv ([na].map Str))) (hh : Pre w [cel sb ([Value.map (some mb), I (s.left), .bool s.off, I (s.made), I (s.room)]) 192, mapS mb (kvO s.obs), bag (s.obs.map (obR 5))]) : Spec Tryz.prog 135 [.pointer (some ⟨sb, 0, none⟩), nv] w [cel sb ([Value.map (some mb), I (s.left), .bool s.off, I (s.made), I (s.room)]) 192, mapS mb (kvO s.obs), bag (s.obs.map (obR 5))] (fun _ : Unit => True) (fun _ => I ((q.2 : Nat) : Int)) (fun _ => [cel sb ([Value.map (some mb), I (q.1.left), .bool q.1.off, I (q.1.made), I (q.1.room)]) 192, mapS mb (kvO q.1.obs), bag (q.1.obs.map (obR 5))]) := by
  refine spec_of (n := 42) Tryz.func135 rfl rfl hh.1 hh.2 rfl ?_; refine s_r ?_; refine s_q rfl (y_assign rfl) ?_; refine s_n ?_; refine s_r ?_; refine s_q rfl (y_move rfl) ?_; refine tk_act rfl ?_; refine a_callv [] _ rfl (by kernel_rfl) rfl (fun w' hw' => chSyn_spec (s := s) (q := s.nudge) rfl hok (St.pre hw')) rfl fun _ _ => ?_; refine s_q rfl (y_assign rfl) ?_; refine s_n ?_; refine tk_seq ?_; refine s_r ?_
  refine s_q rfl (y_move rfl) ?_; refine s_q rfl (y_lenRN (n' := 1) rfl hn.1 rfl (by first | rfl | (rw [List.length_map]; omega) | simp)) ?_; refine s_q rfl (y_move rfl) ?_; refine s_n ?_; refine tk_block ?_; refine tk_loop (X := Nat × Sh × Nat) (fun (i, t, e) => (i = 0 ∧ t = s.nudge.1 ∧ e = s.nudge.2) ∨ (i = 1 ∧ s.sync1 na = (t, e))) (fun (i, t, e) => [(0, .pointer (some ⟨sb, 0, none⟩)), (4, I 0), (5, I ((e : Nat) : Int)), (12, nv), (13, I 1), (14, I ((i : Nat) : Int))]) (fun (i, t, e) => [cel sb ([Value.map (some mb), I (t.left), .bool t.off, I (t.made), I (t.room)]) 192, mapS mb (kvO t.obs), bag (t.obs.map (obR 5))]) (fun (i, t, e) => 1 - i) ((0, s.nudge.1, s.nudge.2)) (.inl ⟨rfl, rfl, rfl⟩) (by repeat (first | exact trivial | refine ⟨rfl, ?_⟩)) ((List.Sublist.refl _)) ?_
  rintro ⟨i, t, e⟩ hI
  dsimp only at hI ⊢
  refine s_r ?_; refine s_q rfl (y_lss rfl rfl) ?_; refine s_n ?_; refine tk_seq ?_; refine tk_condP rfl (fun ht15 => ?_) (fun ht15 => ?_)
  · skip
    obtain ⟨hte, hee⟩ : t = s.nudge.1 ∧ e = s.nudge.2 := hI.elim (fun h => h.2) (fun h => absurd h.1 (by omega))
    refine tk_bagO (.tail _ (.tail _ (.head _))) fun hbo => ?_
    have hlk := lk_one hbo
    have hnt : (t.obs.map Ob.name).Nodup := by rw [hte, nudge_obs.1]; exact hok.nodup
    refine tk_skip ?_; refine tk_then ?_; refine tk_seq ?_; refine tk_block ?_; refine s_r ?_; refine s_q rfl (y_ixR (j := i) rfl rfl hn.1 lenP (by kernel_rfl)) ?_; refine tk_qe (Str na) rfl rfl rfl (y_load rfl rfl (fun w hw => ((fun w hw => Ro.rd hn hw) w hw).cell (gM (d := []) lenP))) (by rw [show i = 0 by omega]; rfl) ?_; refine s_q rfl (y_assign rfl) ?_; refine s_n ?_; refine tk_seq ?_; refine s_r ?_
    refine s_q rfl (y_move rfl) ?_; refine s_q rfl (y_neq rfl rfl) ?_; refine s_n ?_; refine tk_condP rfl (fun ht19 => ?_) (fun ht19 => ?_)
    · skip
      refine tk_exit ?_; refine tk_then_exit ?_; refine tk_in_miss rfl ?_; refine tk_then_exit ?_; refine tk_then_exit ?_; refine tk_in_hit ?_; refine tk_then ?_; refine s_r ?_; refine s_q rfl (y_move rfl) ?_; refine s_q rfl (y_assign rfl) ?_; refine s_n ?_; refine tk_retc ?_
      obtain rfl : (t, e) = q := by rw [← hq]; exact Eq.symm (by rw [sync1_no (by rw [← hee]; omega), hte, hee])
      exact tk_ret (()) (trivial) (.inl rfl) (r1 rfl rfl) (List.Sublist.refl _)
    · skip
      have he0 : e = 0 := by omega
      have hn0 : s.nudge.2 = 0 := by rw [← hee]; exact he0
      refine tk_skip ?_; refine tk_then ?_; refine s_r ?_; refine s_q rfl (y_move rfl) ?_; refine s_q rfl (y_nilCheck rfl) ?_; refine s_q rfl (y_fld0 (o := 0) rfl (by kernel_rfl)) ?_; refine s_q rfl (y_fld0 (o := 0) rfl (by kernel_rfl)) ?_; refine s_q rfl (y_load rfl rfl (hc (o := 0) (.head _) (rfl))) ?_; refine s_q rfl (y_move rfl) ?_; refine s_q rfl ((y_getSok (b := mb) (kv := (kvO t.obs)) (k := na) (zv := .agg [Value.slice none 0 0, .bool false].toArray) rfl rfl Tryz.underlying186 Tryz.underlying9 (fun _ => by kernel_rfl) (fun w hw => hw.mem (.tail _ (.head _)))).cast (kvO_ok)) ?_
      refine s_q rfl (y_move rfl) ?_; refine s_q rfl (y_extract rfl rfl) ?_; refine s_q rfl (y_extract rfl rfl) ?_; refine tk_act rfl ?_; refine a_allocL (cs := [Value.slice none 0 0, .bool false]) (by kernel_rfl) rfl fun b8 => ?_; refine tk_act rfl ?_; refine a_storeW (H1 := []) (vs := [(lkO t.obs na).v, .bool ((lkO t.obs na).sure)]) 2 rfl rfl (by kernel_rfl) rfl ⟨lenP, lenP⟩ (List.forall_mem_cons.2 ⟨(hlk _), (List.forall_mem_cons.2 ⟨rfl, (fun _ h => nomatch h)⟩)⟩) ?_
      refine s_q rfl (y_assign rfl) ?_; refine s_n ?_; refine tk_seq ?_; refine s_r ?_; refine s_q rfl (y_move rfl) ?_; refine s_q rfl ((y_not rfl).cast (notdec _)) ?_; refine s_n ?_; refine tk_condP rfl (fun ht31 => ?_) (fun ht31 => ?_)
      · skip
        refine s_r ?_; refine s_q rfl (y_assign rfl) ?_; refine s_n ?_; refine tk_exit ?_; refine tk_then_exit ?_; refine tk_in_miss rfl ?_; refine tk_then_exit ?_; refine tk_then_exit ?_; refine tk_in_hit ?_; refine tk_then ?_; refine s_r ?_; refine s_q rfl (y_move rfl) ?_; refine s_q rfl (y_assign rfl) ?_; refine s_n ?_; refine tk_retc ?_
        obtain rfl : (t, 6) = q := by rw [← hq]; exact Eq.symm (by rw [sync1_miss hn0 (by rw [← hte]; exact ht31), hte])
        exact tk_ret (()) (trivial) (.inl rfl) (r1 rfl rfl) (.cons _ (List.Sublist.refl _))
      · skip
        refine tk_skip ?_; refine tk_then ?_; refine s_r ?_; refine s_q rfl (y_fldN (o := 0) 1 rfl (by kernel_rfl)) ?_; refine tk_act rfl ?_; refine a_storeE (H1 := []) (o := 1) (v := .bool true) (cs' := [(lkO t.obs na).v, .bool true]) rfl rfl (by kernel_rfl) rfl rfl (by first | (simp; done) | (simp; omega)) (rfl) ?_; refine s_n ?_; refine tk_drawH [cel b8 ([(lkO t.obs na).v, .bool true]) 198, cel sb ([Value.map (some mb), I (t.left), .bool t.off, I (t.made), I (t.room)]) 192, bag (t.obs.map (obR 5))] [] (by kernel_rfl) ?_
        refine s_x 0 rfl (y_move rfl) ?_; refine s_x 1 rfl (y_nilCheck rfl) ?_; refine s_x 2 rfl (y_fld0 (o := 0) rfl (by kernel_rfl)) ?_; refine s_x 3 rfl (y_fld0 (o := 0) rfl (by kernel_rfl)) ?_; refine s_l 4 rfl (fun _ h => h.sub (.cons_cons _ (.cons_cons _ (.cons _ (List.Sublist.refl _))))) (y_load rfl rfl (hc (o := 0) (.tail _ (.head _)) (rfl))) ?_; refine s_x 5 rfl (y_move rfl) ?_; refine s_l 6 rfl (fun _ h => h.sub (.cons_cons _ (.cons_cons _ (.cons _ (List.Sublist.refl _))))) (y_loadA 2 rfl (by kernel_rfl) lenP (hcw (.head _))) ?_
        refine tx_a 7 rfl (by kernel_rfl) rfl ?_; refine a_setS (H1 := [_, _]) (b := mb) (kv := (kvO t.obs)) (k := na) (v := (Value.agg ([(lkO t.obs na).v, .bool true]).toArray)) rfl rfl rfl Tryz.underlying186 Tryz.underlying9 rfl ?_; refine tk_S (fun _ h => h.sub (.cons_cons _ (.cons_cons _ (.cons _ (List.Sublist.refl _))))) ?_; refine tx_done (by kernel_rfl) ?_; refine tk_in_normal ?_; refine tk_then ?_
        refine tk_region ?_; refine s_q rfl (y_addN (a := i) (b := 1) rfl rfl (by omega)) ?_; refine s_q rfl (y_move rfl) ?_; refine tk_nil ?_; refine tk_re 5 (I ((e : Nat) : Int)) (I 0) rfl (by rw [he0]; rfl) ?_; refine tk_H [cel b8 ([(lkO t.obs na).v, .bool true]) 198, cel sb ([Value.map (some mb), I (t.left), .bool t.off, I (t.made), I (t.room)]) 192, mapS mb (kvO (syncO t.obs na)), bag (t.obs.map (obR 5))] (congrArg (fun z_ => [cel b8 ([(lkO t.obs na).v, .bool true]) 198, cel sb ([Value.map (some mb), I (t.left), .bool t.off, I (t.made), I (t.room)]) 192, z_, bag (t.obs.map (obR 5))]) (show mapS mb (setS (kvO t.obs) na ((Value.agg ([(lkO t.obs na).v, .bool true]).toArray))) = mapS mb (kvO (syncO t.obs na)) from mapS_cast (kvO_sync hnt (Classical.not_not.1 ht31)))) ?_
        refine tk_H [cel b8 ([(lkO t.obs na).v, .bool true]) 198, cel sb ([Value.map (some mb), I (t.left), .bool t.off, I (t.made), I (t.room)]) 192, mapS mb (kvO (syncO t.obs na)), bag ((syncO t.obs na).map (obR 5))] (congrArg (fun z_ => [cel b8 ([(lkO t.obs na).v, .bool true]) 198, cel sb ([Value.map (some mb), I (t.left), .bool t.off, I (t.made), I (t.room)]) 192, mapS mb (kvO (syncO t.obs na)), z_]) (show bag (t.obs.map (obR 5)) = bag ((syncO t.obs na).map (obR 5)) from bag_cast sync_bag.symm)) ?_
        exact tk_again ((i + 1, t.obsTo (syncO t.obs na), 0)) (.inr ⟨by dsimp only; omega, by dsimp only; rw [sync1_ok hn0 (by rw [← hte]; exact Classical.not_not.1 ht31), hte]⟩) (by dsimp only; omega) (by repeat (first | exact trivial | refine ⟨rfl, ?_⟩)) (.cons _ (List.Sublist.refl _))
  · skip
    refine tk_exit ?_; refine tk_then_exit ?_; refine tk_then_exit ?_; refine tk_in_hit ?_; refine tk_then ?_; refine s_r ?_; refine s_q rfl (y_move rfl) ?_; refine s_q rfl (y_assign rfl) ?_; refine s_n ?_; refine tk_retc ?_
    obtain rfl : (t, e) = q := by rw [← hq]; exact Eq.symm (by exact hI.elim (fun h => absurd h.1 (by omega)) (fun h => h.2))
    exact tk_ret (()) (trivial) (.inl rfl) (r1 rfl rfl) (List.Sublist.refl _)
theorem sync_spec {s : Sh} {sb mb : Nat} {nv : Value} {na : List UInt8} {w : World} (hok : ShOk s) (hn : Ro (Fs [cel sb ([Value.map (some mb), I (s.left), .bool s.off, I (s.made), I (s.room)]) 192, mapS mb (kvO s.obs), bag (s.obs.map (obR 5))]) w (rd nv ([na].map Str))) (hh : Pre w [cel sb ([Value.map (some mb), I (s.left), .bool s.off, I (s.made), I (s.room)]) 192, mapS mb (kvO s.obs), bag (s.obs.map (obR 5))]) : Spec Tryz.prog 135 [.pointer (some ⟨sb, 0, none⟩), nv] w [cel sb ([Value.map (some mb), I (s.left), .bool s.off, I (s.made), I (s.room)]) 192, mapS mb (kvO s.obs), bag (s.obs.map (obR 5))] (fun _ : Unit => True) (fun _ => I (((s.sync1 na).2 : Nat) : Int)) (fun _ => [cel sb ([Value.map (some mb), I ((s.sync1 na).1.left), .bool ((s.sync1 na).1.off), I ((s.sync1 na).1.made), I ((s.sync1 na).1.room)]) 192, mapS mb (kvO ((s.sync1 na).1.obs)), bag (((s.sync1 na).1.obs).map (obR 5))]) := sync_q rfl hok hn hh
theorem get_q {s : Sh} {q : Nat × List UInt8} {sb mb : Nat} {na : List UInt8} {w : World} (hq : s.get na = q) (hok : ShOk s) (hh : Pre w [cel sb ([Value.map (some mb), I (s.left), .bool s.off, I (s.made), I (s.room)]) 192, mapS mb (kvO s.obs), bag (s.obs.map (obR 5))]) : Spec Tryz.prog 80 [.pointer (some ⟨sb, 0, none⟩), Str na] w [cel sb ([Value.map (some mb), I (s.left), .bool s.off, I (s.made), I (s.room)]) 192, mapS mb (kvO s.obs), bag (s.obs.map (obR 5))] (fun _ : Value => True) (fun x => .tuple #[x, I ((q.1 : Nat) : Int)]) (fun x => [ownB x q.2 5, cel sb ([Value.map (some mb), I (s.left), .bool s.off, I (s.made), I (s.room)]) 192, mapS mb (kvO s.obs), bag (s.obs.map (obR 5))]) := by
  refine spec_of (n := 29) Tryz.func80 rfl rfl hh.1 hh.2 rfl ?_
  have hsum := hok.sum
  have hrm := hok.room
  refine tk_bagO (.tail _ (.tail _ (.head _))) fun hbo => ?_
  have hlk := lk_one hbo
  
  refine s_r ?_; refine s_q rfl (y_assign rfl) ?_; refine s_q rfl (y_assign rfl) ?_; refine s_n ?_; refine tk_seq ?_; refine s_r ?_; refine s_q rfl (y_move rfl) ?_; refine tk_act rfl ?_; refine a_callv [] _ rfl (by kernel_rfl) rfl (fun w' hw' => look_spec (s := s) (sb := sb) (mb := mb) (St.pre hw')) rfl fun _ _ => ?_; refine s_q rfl (y_assign rfl) ?_; refine s_n ?_; refine s_r ?_; refine s_q rfl (y_move rfl) ?_
  refine s_q rfl (y_neq rfl rfl) ?_; refine s_n ?_; refine tk_condP rfl (fun ht12 => ?_) (fun ht12 => ?_)
  · skip
    have hof : s.off = true := Classical.not_not.1 fun h => by rw [if_neg h] at ht12; omega
    refine s_r ?_; refine s_q rfl (y_move rfl) ?_; refine s_q rfl (y_assign rfl) ?_; refine s_q rfl (y_assign rfl) ?_; refine s_n ?_; refine tk_retc ?_; refine tk_then_ret ?_; refine tk_ownM0 (f := B) 5 ?_
    obtain rfl : (9, []) = q := by rw [← hq]; exact Eq.symm (by rw [Sh.get, if_pos hof])
    refine tk_re 5 (I (((if s.off = true then 9 else 0) : Nat) : Int)) (I 9) rfl (by rw [if_pos hof]; rfl) ?_
    exact tk_ret ((.slice none 0 0)) (trivial) (.inl rfl) (r2 rfl rfl rfl) (List.Sublist.refl _)
  · skip
    have hno : ¬ s.off = true := fun h => by rw [if_pos h] at ht12; omega
    refine tk_skip ?_; refine tk_then ?_; refine s_r ?_; refine s_q rfl (y_move rfl) ?_; refine s_q rfl (y_nilCheck rfl) ?_; refine s_q rfl (y_fld0 (o := 0) rfl (by kernel_rfl)) ?_; refine s_q rfl (y_fld0 (o := 0) rfl (by kernel_rfl)) ?_; refine s_q rfl (y_load rfl rfl (hc (o := 0) (.head _) (rfl))) ?_; refine s_q rfl (y_move rfl) ?_; refine s_q rfl ((y_getSok (b := mb) (kv := (kvO s.obs)) (k := na) (zv := .agg [Value.slice none 0 0, .bool false].toArray) rfl rfl Tryz.underlying186 Tryz.underlying9 (fun _ => by kernel_rfl) (fun w hw => hw.mem (.tail _ (.head _)))).cast (kvO_ok)) ?_
    refine s_q rfl (y_move rfl) ?_; refine s_q rfl (y_extract rfl rfl) ?_; refine s_q rfl (y_extract rfl rfl) ?_; refine tk_act rfl ?_; refine a_allocL (cs := [Value.slice none 0 0, .bool false]) (by kernel_rfl) rfl fun b7 => ?_; refine tk_act rfl ?_; refine a_storeW (H1 := []) (vs := [(lkO s.obs na).v, .bool ((lkO s.obs na).sure)]) 2 rfl rfl (by kernel_rfl) rfl ⟨lenP, lenP⟩ (List.forall_mem_cons.2 ⟨(hlk _), (List.forall_mem_cons.2 ⟨rfl, (fun _ h => nomatch h)⟩)⟩) ?_
    refine s_q rfl (y_assign rfl) ?_; refine s_n ?_; refine tk_seq ?_; refine s_r ?_; refine s_q rfl (y_move rfl) ?_; refine s_q rfl ((y_not rfl).cast (notdec _)) ?_; refine s_n ?_; refine tk_condP rfl (fun ht25 => ?_) (fun ht25 => ?_)
    · skip
      refine s_r ?_; refine s_q rfl (y_assign rfl) ?_; refine s_q rfl (y_assign rfl) ?_; refine s_n ?_; refine tk_retc ?_; refine tk_then_ret ?_; refine tk_ownM0 (f := B) 5 ?_
      obtain rfl : (6, []) = q := by rw [← hq]; exact Eq.symm (by rw [Sh.get, if_neg hno, if_pos ht25])
      exact tk_ret ((.slice none 0 0)) (trivial) (.inl rfl) (r2 rfl rfl rfl) (.cons_cons _ (.cons _ (List.Sublist.refl _)))
    · skip
      have hha : hasO s.obs na := Classical.not_not.1 ht25
      have hbl := hok.bytes _ (lkO_name hha).2
      skip
      refine tk_skip ?_; refine tk_then ?_; refine s_r ?_; refine s_q rfl (y_fld0 (o := 0) rfl (by kernel_rfl)) ?_; refine s_q rfl (y_load rfl rfl (hc (o := 0) (.head _) (rfl))) ?_; refine tk_act rfl ?_; refine a_callv [] _ rfl (by kernel_rfl) rfl (fun w' hw' => clone_spec (l := (lkO s.obs na).b) (ro_bagO (T := 5) hw' (.tail _ (.tail _ (.tail _ (.head _)))) (lkO_name hha).2) lenP) rfl fun v28 _ => ?_
      refine s_q rfl (y_assign rfl) ?_; refine s_q rfl (y_assign rfl) ?_; refine s_n ?_; refine tk_retc ?_
      obtain rfl : (0, (lkO s.obs na).b) = q := by rw [← hq]; exact Eq.symm (by rw [Sh.get, if_neg hno, if_neg ht25])
      exact tk_ret (v28) (trivial) (.inl rfl) (r2 rfl rfl rfl) (.cons_cons _ (.cons _ (List.Sublist.refl _)))
theorem get_spec {s : Sh} {sb mb : Nat} {na : List UInt8} {w : World} (hok : ShOk s) (hh : Pre w [cel sb ([Value.map (some mb), I (s.left), .bool s.off, I (s.made), I (s.room)]) 192, mapS mb (kvO s.obs), bag (s.obs.map (obR 5))]) : Spec Tryz.prog 80 [.pointer (some ⟨sb, 0, none⟩), Str na] w [cel sb ([Value.map (some mb), I (s.left), .bool s.off, I (s.made), I (s.room)]) 192, mapS mb (kvO s.obs), bag (s.obs.map (obR 5))] (fun _ : Value => True) (fun x => .tuple #[x, I (((s.get na).1 : Nat) : Int)]) (fun x => [ownB x (s.get na).2 5, cel sb ([Value.map (some mb), I (s.left), .bool s.off, I (s.made), I (s.room)]) 192, mapS mb (kvO s.obs), bag (s.obs.map (obR 5))]) := get_q rfl hok hh
end Go.Proofs.YtkkjfojgjmglpaaGreatDoor
set_option linter.unusedSimpArgs false
set_option linter.unusedVariables false
namespace Go.Proofs.YtkkjfojgjmglpaaGreatDoor
open Go Go.RowKit
set_option maxRecDepth 100000
attribute [local irreducible] sumL hexL dgL
def newS (room : Nat) : Sh := ⟨[], -1, false, 0, (room : Int)⟩
def raiseF (s : Sh) (cn m : Int) : Sh × Int × Nat := if s.off = true then (s, cn, 9) else if m ≤ cn ∨ 4611686018427387903 < m then (s, cn, 1) else if ¬ s.nudge.2 = 0 then (s.nudge.1, cn, s.nudge.2) else (s.nudge.1, m, 0)
theorem get_nine {s : Sh} {a : List UInt8} (h : (s.get a).1 = 9) : (s.get a).1 = if s.off = true then 9 else 0 := by
  unfold Sh.get at h ⊢
  split
  · rfl
  · next h1 =>
    rw [if_neg h1] at h
    split at h <;> cases h
theorem get_notnine {s : Sh} {a : List UInt8} (h : ¬ (s.get a).1 = 9) : (if s.off = true then 9 else 0) = 0 := by
  unfold Sh.get at h
  split
  · next h1 => rw [if_pos h1] at h; exact (h rfl).elim
  · rfl
theorem shNew_spec {room : Nat} {w : World} (hr : room ≤ 1073741824) : Spec Tryz.prog 77 [I ((room : Nat) : Int)] w [] (fun _ : Nat × Nat => True) (fun x => .tuple #[.pointer (some ⟨x.1, 0, none⟩), I 0])
    (fun x => [cel x.1 [.map (some x.2), I (newS room).left, .bool (newS room).off, I (newS room).made, I (newS room).room] 192, mapS x.2 (kvO (newS room).obs), bag ((newS room).obs.map (obR 5))]) := by
  refine spec_of (n := 16) Tryz.func77 rfl rfl trivial trivial rfl ?_; refine s_r ?_; refine s_q rfl (y_assign rfl) ?_; refine s_q rfl (y_assign rfl) ?_; refine s_n ?_; refine tk_seq ?_; refine s_r ?_; refine s_q rfl (y_move rfl) ?_; refine tk_qe (.bool false) rfl rfl rfl (y_lss rfl rfl) (bool_f (by omega)) ?_; refine s_q rfl (y_move rfl) ?_; refine s_g rfl (y_move rfl) ?_; refine tk_gqe (.bool false) rfl rfl rfl (y_gtr rfl rfl) (bool_f (by omega)) ?_
  refine s_q rfl (y_pick0 rfl rfl) ?_; refine s_n ?_; refine tk_cond0 rfl ?_; refine tk_skip ?_; refine tk_then ?_; refine s_r ?_; refine tk_act rfl ?_; refine a_makeMapS rfl fun mb => ?_; refine s_q rfl (y_build (v := .agg ([Value.map (some mb)]).toArray) (vs := [(0, .map (some mb))]) rfl (run_build (zs := [Value.map none]) (pl := [(0, 1)]) Tryz.underlying188 (fun _ => by kernel_rfl) (fun _ => by kernel_rfl) (by simp [fillL, Value.cells]))) ?_
  refine s_q rfl (y_build (v := .agg ([I (-1), .bool false, I 0]).toArray) (vs := [(0, I (-1))]) rfl (fun _ => by kernel_rfl)) ?_; refine s_q rfl (y_move rfl) ?_; refine s_q rfl (y_build (v := .agg ([Value.map (some mb), I (-1), .bool false, I 0, I ((room : Nat) : Int)]).toArray) (vs := [(0, .agg ([Value.map (some mb)]).toArray), (1, .agg ([I (-1), .bool false, I 0]).toArray), (2, I ((room : Nat) : Int))]) rfl (run_build (zs := [Value.map none, I 0, .bool false, I 0, I 0]) (pl := [(0, 1), (1, 3), (4, 1)]) Tryz.underlying192 (fun _ => by kernel_rfl) (fun _ => by kernel_rfl) (by simp [fillL, Value.cells]))) ?_
  refine tk_act rfl ?_; refine a_boxL (cs := [Value.map (some mb), I (-1), .bool false, I 0, I ((room : Nat) : Int)]) rfl rfl fun b15 => ?_; refine s_q rfl (y_assign rfl) ?_; refine s_q rfl (y_assign rfl) ?_; refine s_n ?_; refine tk_retc ?_; refine tk_bag0 ?_; refine tk_perm _ mv2 ?_; refine tk_perm _ mv2 ?_
  exact tk_ret ((b15, mb)) (trivial) (.inl rfl) (r2 rfl rfl rfl) (List.Sublist.refl _)
theorem cNew_spec {sb : Nat} {w : World} : Spec Tryz.prog 78 [.pointer (some ⟨sb, 0, none⟩)] w [] (fun _ : Nat => True) (fun x => .tuple #[.pointer (some ⟨x, 0, none⟩), I 0]) (fun x => [cel x [.pointer (some ⟨sb, 0, none⟩), I 0] 237]) := by
  refine spec_of (n := 9) Tryz.func78 rfl rfl trivial trivial rfl ?_; refine s_r ?_; refine s_q rfl (y_assign rfl) ?_; refine s_q rfl (y_assign rfl) ?_; refine s_n ?_; refine tk_seq ?_; refine s_r ?_; refine s_q rfl (y_move rfl) ?_; refine s_q rfl (y_pnil rfl rfl rfl) ?_; refine s_n ?_; refine tk_cond0 rfl ?_; refine tk_skip ?_; refine tk_then ?_; refine s_r ?_; refine s_q rfl (y_move rfl) ?_; refine s_q rfl (y_build (v := .agg ([Value.pointer (some ⟨sb, 0, none⟩), I 0]).toArray) (vs := [(0, .pointer (some ⟨sb, 0, none⟩))]) rfl (run_build (zs := [Value.pointer none, I 0]) (pl := [(0, 1), (1, 1)]) Tryz.underlying237 (fun _ => by kernel_rfl) (fun _ => by kernel_rfl) (by simp [fillL, Value.cells]))) ?_
  refine tk_act rfl ?_; refine a_boxL (cs := [Value.pointer (some ⟨sb, 0, none⟩), I 0]) rfl rfl fun b8 => ?_; refine s_q rfl (y_assign rfl) ?_; refine s_q rfl (y_assign rfl) ?_; refine s_n ?_; refine tk_retc ?_
  exact tk_ret (b8) (trivial) (.inl rfl) (r2 rfl rfl rfl) (List.Sublist.refl _)
theorem on_spec {s : Sh} {cb sb mb : Nat} {cn : Int} {w : World} (hok : ShOk s) (hh : Pre w [cel cb ([Value.pointer (some ⟨sb, 0, none⟩), I (cn)]) 237, cel sb ([Value.map (some mb), I (s.left), .bool s.off, I (s.made), I (s.room)]) 192, mapS mb (kvO s.obs), bag (s.obs.map (obR 5))]) : Spec Tryz.prog 119 [.pointer (some ⟨cb, 0, none⟩)] w [cel cb ([Value.pointer (some ⟨sb, 0, none⟩), I (cn)]) 237, cel sb ([Value.map (some mb), I (s.left), .bool s.off, I (s.made), I (s.room)]) 192, mapS mb (kvO s.obs), bag (s.obs.map (obR 5))] (fun _ : Unit => True) (fun _ => I (((if s.off = true then 9 else 0 : Nat) : Nat) : Int)) (fun _ => [cel cb ([Value.pointer (some ⟨sb, 0, none⟩), I (cn)]) 237, cel sb ([Value.map (some mb), I (s.left), .bool s.off, I (s.made), I (s.room)]) 192, mapS mb (kvO s.obs), bag (s.obs.map (obR 5))]) := by
  refine spec_of (n := 18) Tryz.func119 rfl rfl hh.1 hh.2 rfl ?_; refine s_r ?_; refine s_q rfl (y_assign rfl) ?_; refine s_n ?_; refine tk_seq ?_; refine s_r ?_; refine s_q rfl (y_move rfl) ?_; refine s_q rfl (y_pnil rfl rfl rfl) ?_; refine s_n ?_; refine tk_cond0 rfl ?_; refine tk_skip ?_; refine tk_then ?_; refine tk_seq ?_; refine s_r ?_; refine s_q rfl (y_move rfl) ?_; refine s_q rfl (y_nilCheck rfl) ?_
  refine s_q rfl (y_fld0 (o := 0) rfl (by kernel_rfl)) ?_; refine s_q rfl (y_load rfl rfl (hc (o := 0) (.head _) (rfl))) ?_; refine tk_act rfl ?_; refine tk_perm _ mv3 ?_; refine tk_perm _ mv3 ?_; refine tk_perm _ mv3 ?_; refine a_callv [] _ rfl (by kernel_rfl) rfl (fun w' hw' => get_spec (s := s) (sb := sb) (mb := mb) (na := []) hok (St.pre hw')) rfl fun v12 _ => ?_; refine s_q rfl (y_move rfl) ?_
  refine s_q rfl (y_extract rfl rfl) ?_; refine s_q rfl (y_extract rfl rfl) ?_; refine s_q rfl (y_assign rfl) ?_; refine s_q rfl (y_assign rfl) ?_; refine s_n ?_; refine s_r ?_; refine s_q rfl (y_move rfl) ?_; refine s_q rfl (y_eql rfl rfl) ?_; refine s_n ?_; refine tk_condP rfl (fun ht16 => ?_) (fun ht16 => ?_)
  · skip
    refine s_r ?_; refine s_q rfl (y_move rfl) ?_; refine s_q rfl (y_assign rfl) ?_; refine s_n ?_; refine tk_retc ?_; refine tk_then_ret ?_; refine tk_re 2 (I (((s.get []).1 : Nat) : Int)) (I (((if s.off = true then 9 else 0) : Nat) : Int)) rfl (by rw [get_nine (by omega)]) ?_; refine tk_perm _ mv3 ?_; refine tk_perm _ mv3 ?_; refine tk_perm _ mv3 ?_; refine tk_perm _ mv4 ?_
    exact tk_ret (()) (trivial) (.inl rfl) (r1 rfl rfl) (.cons_cons _ (.cons_cons _ (.cons_cons _ (.cons_cons _ (List.nil_sublist _)))))
  · skip
    refine tk_skip ?_; refine tk_then ?_; refine s_r ?_; refine s_q rfl (y_assign rfl) ?_; refine s_n ?_; refine tk_retc ?_; refine tk_re 2 (I 0) (I (((if s.off = true then 9 else 0) : Nat) : Int)) rfl (by rw [get_notnine (s := s) (a := []) (by omega)]; rfl) ?_; refine tk_perm _ mv3 ?_; refine tk_perm _ mv3 ?_; refine tk_perm _ mv3 ?_; refine tk_perm _ mv4 ?_
    exact tk_ret (()) (trivial) (.inl rfl) (r1 rfl rfl) (.cons_cons _ (.cons_cons _ (.cons_cons _ (.cons_cons _ (List.nil_sublist _)))))
theorem cread_spec {s : Sh} {cb sb mb : Nat} {cn : Int} {w : World} (hok : ShOk s) (hh : Pre w [cel cb ([Value.pointer (some ⟨sb, 0, none⟩), I (cn)]) 237, cel sb ([Value.map (some mb), I (s.left), .bool s.off, I (s.made), I (s.room)]) 192, mapS mb (kvO s.obs), bag (s.obs.map (obR 5))]) : Spec Tryz.prog 79 [.pointer (some ⟨cb, 0, none⟩)] w [cel cb ([Value.pointer (some ⟨sb, 0, none⟩), I (cn)]) 237, cel sb ([Value.map (some mb), I (s.left), .bool s.off, I (s.made), I (s.room)]) 192, mapS mb (kvO s.obs), bag (s.obs.map (obR 5))] (fun _ : Unit => True) (fun _ => .tuple #[I (if s.off = true then 0 else cn), I (((if s.off = true then 9 else 0 : Nat) : Nat) : Int)]) (fun _ => [cel cb ([Value.pointer (some ⟨sb, 0, none⟩), I (cn)]) 237, cel sb ([Value.map (some mb), I (s.left), .bool s.off, I (s.made), I (s.room)]) 192, mapS mb (kvO s.obs), bag (s.obs.map (obR 5))]) := by
  refine spec_of (n := 14) Tryz.func79 rfl rfl hh.1 hh.2 rfl ?_; refine s_r ?_; refine s_q rfl (y_assign rfl) ?_; refine s_q rfl (y_assign rfl) ?_; refine s_n ?_; refine tk_seq ?_; refine s_r ?_; refine s_q rfl (y_move rfl) ?_; refine tk_act rfl ?_; refine a_callv [] _ rfl (by kernel_rfl) rfl (fun w' hw' => on_spec (s := s) (cb := cb) (cn := cn) hok (St.pre hw')) rfl fun _ _ => ?_; refine s_q rfl (y_assign rfl) ?_
  refine s_n ?_; refine s_r ?_; refine s_q rfl (y_move rfl) ?_; refine s_q rfl (y_neq rfl rfl) ?_; refine s_n ?_; refine tk_condP rfl (fun ht8 => ?_) (fun ht8 => ?_)
  · skip
    have hof : s.off = true := Classical.not_not.1 fun h => by rw [if_neg h] at ht8; omega
    refine s_r ?_; refine s_q rfl (y_move rfl) ?_; refine s_q rfl (y_assign rfl) ?_; refine s_q rfl (y_assign rfl) ?_; refine s_n ?_; refine tk_retc ?_; refine tk_then_ret ?_; refine tk_re 2 (I 0) (I ((if s.off = true then 0 else cn))) rfl (by rw [if_pos hof]) ?_; refine tk_re 3 (I (((if s.off = true then 9 else 0) : Nat) : Int)) (I (((if s.off = true then 9 else 0) : Nat) : Int)) rfl (rfl) ?_
    exact tk_ret (()) (trivial) (.inl rfl) (r2 rfl rfl rfl) (List.Sublist.refl _)
  · skip
    have hno : ¬ s.off = true := fun h => by rw [if_pos h] at ht8; omega
    refine tk_skip ?_; refine tk_then ?_; refine s_r ?_; refine s_q rfl (y_move rfl) ?_; refine s_q rfl (y_nilCheck rfl) ?_; refine s_q rfl (y_fldN (o := 0) 1 rfl (by kernel_rfl)) ?_; refine s_q rfl (y_load rfl rfl (hc (o := 1) (.head _) (rfl))) ?_; refine s_q rfl (y_assign rfl) ?_; refine s_q rfl (y_assign rfl) ?_; refine s_n ?_; refine tk_retc ?_; refine tk_re 2 (I (cn)) (I ((if s.off = true then 0 else cn))) rfl (by rw [if_neg hno]) ?_
    refine tk_re 3 (I 0) (I (((if s.off = true then 9 else 0) : Nat) : Int)) rfl (by rw [if_neg hno]; rfl) ?_
    exact tk_ret (()) (trivial) (.inl rfl) (r2 rfl rfl rfl) (List.Sublist.refl _)
theorem raise_q {s : Sh} {q : Sh × Int × Nat} {cb sb mb : Nat} {cn m : Int} {w : World} (hq : raiseF s cn m = q) (hok : ShOk s) (hh : Pre w [cel cb ([Value.pointer (some ⟨sb, 0, none⟩), I (cn)]) 237, cel sb ([Value.map (some mb), I (s.left), .bool s.off, I (s.made), I (s.room)]) 192, mapS mb (kvO s.obs), bag (s.obs.map (obR 5))]) : Spec Tryz.prog 88 [.pointer (some ⟨cb, 0, none⟩), I m] w [cel cb ([Value.pointer (some ⟨sb, 0, none⟩), I (cn)]) 237, cel sb ([Value.map (some mb), I (s.left), .bool s.off, I (s.made), I (s.room)]) 192, mapS mb (kvO s.obs), bag (s.obs.map (obR 5))] (fun _ : Unit => True) (fun _ => I ((q.2.2 : Nat) : Int)) (fun _ => [cel cb ([Value.pointer (some ⟨sb, 0, none⟩), I (q.2.1)]) 237, cel sb ([Value.map (some mb), I (q.1.left), .bool q.1.off, I (q.1.made), I (q.1.room)]) 192, mapS mb (kvO q.1.obs), bag (q.1.obs.map (obR 5))]) := by
  refine spec_of (n := 34) Tryz.func88 rfl rfl hh.1 hh.2 rfl ?_; refine s_r ?_; refine s_q rfl (y_assign rfl) ?_; refine s_n ?_; refine tk_seq ?_; refine s_r ?_; refine s_q rfl (y_move rfl) ?_; refine tk_act rfl ?_; refine a_callv [] _ rfl (by kernel_rfl) rfl (fun w' hw' => on_spec (s := s) (cb := cb) (cn := cn) hok (St.pre hw')) rfl fun _ _ => ?_; refine s_q rfl (y_assign rfl) ?_; refine s_n ?_; refine s_r ?_
  refine s_q rfl (y_move rfl) ?_; refine s_q rfl (y_neq rfl rfl) ?_; refine s_n ?_; refine tk_condP rfl (fun ht10 => ?_) (fun ht10 => ?_)
  · skip
    have hof : s.off = true := Classical.not_not.1 fun h => by rw [if_neg h] at ht10; omega
    refine tk_re 5 (I (((if s.off = true then 9 else 0) : Nat) : Int)) (I 9) rfl (by rw [if_pos hof]; rfl) ?_; refine s_r ?_; refine s_q rfl (y_move rfl) ?_; refine s_q rfl (y_assign rfl) ?_; refine s_n ?_; refine tk_retc ?_; refine tk_then_ret ?_
    obtain rfl : (s, cn, 9) = q := by rw [← hq]; exact Eq.symm (by rw [raiseF, if_pos hof])
    exact tk_ret (()) (trivial) (.inl rfl) (r1 rfl rfl) (List.Sublist.refl _)
  · skip
    have hno : ¬ s.off = true := fun h => by rw [if_pos h] at ht10; omega
    refine tk_skip ?_; refine tk_then ?_; refine tk_seq ?_; refine s_r ?_; refine s_q rfl (y_move rfl) ?_; refine s_q rfl (y_move rfl) ?_; refine s_q rfl (y_nilCheck rfl) ?_; refine s_q rfl (y_fldN (o := 0) 1 rfl (by kernel_rfl)) ?_; refine s_q rfl (y_load rfl rfl (hc (o := 1) (.head _) (rfl))) ?_; refine tk_qs rfl rfl rfl (y_leq rfl rfl) (fun hs4_5 => ?_) (fun hs4_5 => ?_)
    · skip
      refine s_q rfl (y_move rfl) ?_; refine tk_gno rfl rfl rfl ?_; refine tk_gno rfl rfl rfl ?_; refine s_q rfl (y_pick1 rfl rfl) ?_; refine s_n ?_; refine tk_cond1 rfl ?_; refine s_r ?_; refine s_q rfl (y_assign rfl) ?_; refine s_n ?_; refine tk_retc ?_; refine tk_then_ret ?_
      obtain rfl : (s, cn, 1) = q := by rw [← hq]; exact Eq.symm (by rw [raiseF, if_neg hno, if_pos (.inl hs4_5)])
      exact tk_ret (()) (trivial) (.inl rfl) (r1 rfl rfl) (List.Sublist.refl _)
    · skip
      refine s_q rfl (y_move rfl) ?_; refine s_g rfl (y_move rfl) ?_; refine s_g rfl (y_gtr rfl rfl) ?_; refine s_q rfl (y_pick0 rfl rfl) ?_; refine s_n ?_; refine tk_condP rfl (fun ht21 => ?_) (fun ht21 => ?_)
      · skip
        refine s_r ?_; refine s_q rfl (y_assign rfl) ?_; refine s_n ?_; refine tk_retc ?_; refine tk_then_ret ?_
        obtain rfl : (s, cn, 1) = q := by rw [← hq]; exact Eq.symm (by rw [raiseF, if_neg hno, if_pos (.inr ht21)])
        exact tk_ret (()) (trivial) (.inl rfl) (r1 rfl rfl) (List.Sublist.refl _)
      · skip
        refine tk_skip ?_; refine tk_then ?_; refine tk_seq ?_; refine s_r ?_; refine s_q rfl (y_move rfl) ?_; refine s_q rfl (y_nilCheck rfl) ?_; refine s_q rfl (y_fld0 (o := 0) rfl (by kernel_rfl)) ?_; refine s_q rfl (y_load rfl rfl (hc (o := 0) (.head _) (rfl))) ?_; refine tk_act rfl ?_; refine tk_perm _ mv3 ?_; refine tk_perm _ mv3 ?_; refine tk_perm _ mv3 ?_; refine a_callv [] _ rfl (by kernel_rfl) rfl (fun w' hw' => nudge_spec (s := s) (sb := sb) (mb := mb)  hok  (St.pre hw')) rfl fun _ _ => ?_
        refine s_q rfl (y_assign rfl) ?_; refine s_n ?_; refine s_r ?_; refine s_q rfl (y_move rfl) ?_; refine s_q rfl (y_neq rfl rfl) ?_; refine s_n ?_; refine tk_condP rfl (fun ht28 => ?_) (fun ht28 => ?_)
        · skip
          refine s_r ?_; refine s_q rfl (y_move rfl) ?_; refine s_q rfl (y_assign rfl) ?_; refine s_n ?_; refine tk_retc ?_; refine tk_then_ret ?_
          obtain rfl : (s.nudge.1, cn, s.nudge.2) = q := by rw [← hq]; exact Eq.symm (by rw [raiseF, if_neg hno, if_neg (fun q => q.elim hs4_5 ht21), if_pos (by omega)])
          refine tk_perm _ mv2 ?_; refine tk_perm _ mv2 ?_; refine tk_perm _ mv2 ?_; refine tk_perm _ mv3 ?_
          exact tk_ret (()) (trivial) (.inl rfl) (r1 rfl rfl) (List.Sublist.refl _)
        · skip
          refine tk_skip ?_; refine tk_then ?_; refine s_r ?_; refine s_q rfl (y_move rfl) ?_; refine s_q rfl (y_move rfl) ?_; refine s_q rfl (y_nilCheck rfl) ?_; refine s_q rfl (y_fldN (o := 0) 1 rfl (by kernel_rfl)) ?_; refine tk_act rfl ?_; refine a_storeE (H1 := [_, _, _]) (o := 1) (v := I (m)) (cs' := [Value.pointer (some ⟨sb, 0, none⟩), I (m)]) rfl rfl (by kernel_rfl) rfl rfl (by first | (simp; done) | (simp; omega)) (rfl) ?_
          refine s_n ?_; refine s_r ?_; refine s_q rfl (y_assign rfl) ?_; refine s_n ?_; refine tk_retc ?_
          obtain rfl : (s.nudge.1, m, 0) = q := by rw [← hq]; exact Eq.symm (by rw [raiseF, if_neg hno, if_neg (fun q => q.elim hs4_5 ht21), if_neg (by omega)])
          refine tk_perm _ mv2 ?_; refine tk_perm _ mv2 ?_; refine tk_perm _ mv2 ?_; refine tk_perm _ mv3 ?_
          exact tk_ret (()) (trivial) (.inl rfl) (r1 rfl rfl) (List.Sublist.refl _)
theorem raise_spec {s : Sh} {cb sb mb : Nat} {cn m : Int} {w : World} (hok : ShOk s) (hh : Pre w [cel cb ([Value.pointer (some ⟨sb, 0, none⟩), I (cn)]) 237, cel sb ([Value.map (some mb), I (s.left), .bool s.off, I (s.made), I (s.room)]) 192, mapS mb (kvO s.obs), bag (s.obs.map (obR 5))]) : Spec Tryz.prog 88 [.pointer (some ⟨cb, 0, none⟩), I m] w [cel cb ([Value.pointer (some ⟨sb, 0, none⟩), I (cn)]) 237, cel sb ([Value.map (some mb), I (s.left), .bool s.off, I (s.made), I (s.room)]) 192, mapS mb (kvO s.obs), bag (s.obs.map (obR 5))] (fun _ : Unit => True) (fun _ => I (((raiseF s cn m).2.2 : Nat) : Int)) (fun _ => [cel cb ([Value.pointer (some ⟨sb, 0, none⟩), I ((raiseF s cn m).2.1)]) 237, cel sb ([Value.map (some mb), I ((raiseF s cn m).1.left), .bool ((raiseF s cn m).1.off), I ((raiseF s cn m).1.made), I ((raiseF s cn m).1.room)]) 192, mapS mb (kvO ((raiseF s cn m).1.obs)), bag (((raiseF s cn m).1.obs).map (obR 5))]) := raise_q rfl hok hh
theorem digest_spec {v : Value} {l : List UInt8} {w : World} (h1 : Ro (Fs []) w (rdB v l)) (hl : l.length < 4294967296) (hg : Ro (Fs []) w glob) : Spec Tryz.prog 133 [v] w [] (fun _ : Unit => True) (fun _ => Str (dgL l)) (fun _ => []) := by
  refine spec_of (n := 8) Tryz.func133 rfl rfl trivial trivial rfl ?_; refine s_r ?_; refine s_q rfl (y_assign rfl) ?_; refine s_n ?_; refine s_r ?_; refine s_q rfl (y_move rfl) ?_; refine tk_act rfl ?_; refine a_slitN (vs := [v]) rfl (List.forall_mem_cons.2 ⟨(RdS.one h1.1), (fun _ h => nomatch h)⟩) (EL206) rfl rfl (by decide) fun b4 => ?_; refine tk_act rfl ?_; refine a_callv [] _ rfl (by kernel_rfl) rfl (fun w' hw' => of_spec (ps := [(v, l)]) (L := l) (Ro.cel (vs := [v]) hw' (.head _) (by first | rfl | simp) rfl (by decide)) (List.forall_mem_cons.2 ⟨(Ro.call (H0 := []) h1 hw'), (fun _ h => nomatch h)⟩) (by simp) lenP lenP (hg.call hw')) rfl fun _ _ => ?_
  have hx64 : (hexL (sumL l)).length = 64 := by rw [hexL_len, sumL_len]
  refine tk_act rfl ?_; refine a_callv [] _ rfl (by kernel_rfl) rfl (fun w' hw' => text_spec (l := sumL l) sumL_len) rfl fun _ _ => ?_; refine s_q rfl (y_cutTh (l := hexL (sumL l)) (hi := 40) rfl rfl rfl (by omega)) ?_; refine s_q rfl (y_assign rfl) ?_; refine s_n ?_; refine tk_retc ?_; refine tk_re 2 (Str ((hexL (sumL l)).take 40)) (Str (dgL l)) rfl (by unfold dgL; rfl) ?_
  exact tk_ret (()) (trivial) (.inl rfl) (r1 rfl rfl) (List.nil_sublist _)
theorem pub_spec {s : Sh} {sb mb : Nat} {k : Int} {bv : Value} {nm b : List UInt8} {w : World} (hat : ShAt s k) (hk : k < 4611686018427387000) (hnl : nm.length < 4294967296) (hbl : b.length < 4294967296) (hb : Ro (Fs [cel sb ([Value.map (some mb), I (s.left), .bool s.off, I (s.made), I (s.room)]) 192, mapS mb (kvO s.obs), bag (s.obs.map (obR 5))]) w (rdB bv b)) (hg : Ro (Fs [cel sb ([Value.map (some mb), I (s.left), .bool s.off, I (s.made), I (s.room)]) 192, mapS mb (kvO s.obs), bag (s.obs.map (obR 5))]) w glob) (hh : Pre w [cel sb ([Value.map (some mb), I (s.left), .bool s.off, I (s.made), I (s.room)]) 192, mapS mb (kvO s.obs), bag (s.obs.map (obR 5))]) :
    Spec Tryz.prog 87 [.pointer (some ⟨sb, 0, none⟩), Str nm, bv] w [cel sb ([Value.map (some mb), I (s.left), .bool s.off, I (s.made), I (s.room)]) 192, mapS mb (kvO s.obs), bag (s.obs.map (obR 5))] (fun _ : Value => True) (fun x => I (((s.pub nm x b).2 : Nat) : Int)) (fun x => [cel sb ([Value.map (some mb), I ((s.pub nm x b).1.left), .bool ((s.pub nm x b).1.off), I ((s.pub nm x b).1.made), I ((s.pub nm x b).1.room)]) 192, mapS mb (kvO ((s.pub nm x b).1.obs)), bag (((s.pub nm x b).1.obs).map (obR 5))]) := by
  refine spec_of (n := 53) Tryz.func87 rfl rfl hh.1 hh.2 rfl ?_
  have hok := hat.ok (by omega)
  have hat1 := at_del (a := drL nm) hat
  have hok1 : ShOk (s.del (drL nm)).1 := hat1.ok (by omega)
  refine s_r ?_; refine s_q rfl (y_assign rfl) ?_; refine s_n ?_; refine tk_seq ?_; refine s_r ?_; refine s_q rfl (y_move rfl) ?_; refine s_q rfl (y_pnil rfl rfl rfl) ?_; refine s_n ?_; refine tk_cond0 rfl ?_; refine tk_skip ?_; refine tk_then ?_; refine tk_seq ?_; refine s_r ?_; refine s_q rfl (y_move rfl) ?_; refine tk_act rfl ?_; refine a_callv [] _ rfl (by kernel_rfl) rfl (fun w' hw' => isname_spec (l := nm) lenP) rfl fun _ _ => ?_
  refine s_q rfl ((y_not rfl).cast (notdec _)) ?_; refine s_n ?_; refine tk_condP rfl (fun ht14 => ?_) (fun ht14 => ?_)
  · skip
    refine s_r ?_; refine s_q rfl (y_assign rfl) ?_; refine s_n ?_; refine tk_retc ?_; refine tk_then_ret ?_; refine tk_H [cel sb ([Value.map (some mb), I ((s.pub nm (.slice none 0 0) b).1.left), .bool ((s.pub nm (.slice none 0 0) b).1.off), I ((s.pub nm (.slice none 0 0) b).1.made), I ((s.pub nm (.slice none 0 0) b).1.room)]) 192, mapS mb (kvO s.obs), bag (s.obs.map (obR 5))] (congrArg (fun z_ => [cel sb z_ 192, mapS mb (kvO s.obs), bag (s.obs.map (obR 5))]) (show [Value.map (some mb), I (s.left), .bool s.off, I (s.made), I (s.room)] = [Value.map (some mb), I ((s.pub nm (.slice none 0 0) b).1.left), .bool ((s.pub nm (.slice none 0 0) b).1.off), I ((s.pub nm (.slice none 0 0) b).1.made), I ((s.pub nm (.slice none 0 0) b).1.room)] from by rw [pub_nm ht14])) ?_
    refine tk_H [cel sb ([Value.map (some mb), I ((s.pub nm (.slice none 0 0) b).1.left), .bool ((s.pub nm (.slice none 0 0) b).1.off), I ((s.pub nm (.slice none 0 0) b).1.made), I ((s.pub nm (.slice none 0 0) b).1.room)]) 192, mapS mb (kvO ((s.pub nm (.slice none 0 0) b).1.obs)), bag (s.obs.map (obR 5))] (congrArg (fun z_ => [cel sb ([Value.map (some mb), I ((s.pub nm (.slice none 0 0) b).1.left), .bool ((s.pub nm (.slice none 0 0) b).1.off), I ((s.pub nm (.slice none 0 0) b).1.made), I ((s.pub nm (.slice none 0 0) b).1.room)]) 192, z_, bag (s.obs.map (obR 5))]) (show mapS mb (kvO s.obs) = mapS mb (kvO ((s.pub nm (.slice none 0 0) b).1.obs)) from by rw [pub_nm ht14])) ?_
    refine tk_H [cel sb ([Value.map (some mb), I ((s.pub nm (.slice none 0 0) b).1.left), .bool ((s.pub nm (.slice none 0 0) b).1.off), I ((s.pub nm (.slice none 0 0) b).1.made), I ((s.pub nm (.slice none 0 0) b).1.room)]) 192, mapS mb (kvO ((s.pub nm (.slice none 0 0) b).1.obs)), bag (((s.pub nm (.slice none 0 0) b).1.obs).map (obR 5))] (congrArg (fun z_ => [cel sb ([Value.map (some mb), I ((s.pub nm (.slice none 0 0) b).1.left), .bool ((s.pub nm (.slice none 0 0) b).1.off), I ((s.pub nm (.slice none 0 0) b).1.made), I ((s.pub nm (.slice none 0 0) b).1.room)]) 192, mapS mb (kvO ((s.pub nm (.slice none 0 0) b).1.obs)), z_]) (show bag (s.obs.map (obR 5)) = bag (((s.pub nm (.slice none 0 0) b).1.obs).map (obR 5)) from by rw [pub_nm ht14])) ?_
    refine tk_re 6 (I 5) (I (((s.pub nm (.slice none 0 0) b).2 : Nat) : Int)) rfl (by rw [pub_nm ht14]; rfl) ?_
    exact tk_ret ((.slice none 0 0)) (trivial) (.inl rfl) (r1 rfl rfl) (List.Sublist.refl _)
  · skip
    have hnm := Classical.not_not.1 ht14
    have hdl : (drL nm).length ≤ 42 := by unfold drL dgL; rw [List.length_append, List.length_take]; simp only [List.length_cons, List.length_nil]; omega
    have hdg : (dgL nm).length ≤ 40 := by unfold dgL; rw [List.length_take]; omega
    refine tk_skip ?_; refine tk_then ?_; refine s_r ?_; refine s_q rfl (y_move rfl) ?_; refine tk_act rfl ?_; refine a_s2bO (l := nm) rfl rfl rfl rfl rfl (by simp only [maxLen]; first | omega | (simp; done) | (simp; omega)) fun v16 => ?_; refine tk_own1 (.head _) fun hfv16 => ?_; refine tk_act rfl ?_; refine a_callv [] _ rfl (by kernel_rfl) rfl (fun w' hw' => digest_spec (l := nm) (Ro.own (H0 := []) hw' (.head _)) lenP (hg.call hw')) rfl fun _ _ => ?_
    refine s_q rfl (y_catT (l := [116, 47]) (m := dgL nm) rfl rfl lenP) ?_; refine tk_re 18 (Str ([116, 47] ++ (dgL nm))) (Str (drL nm)) rfl (rfl) ?_; refine s_q rfl (y_assign rfl) ?_; refine s_n ?_; refine tk_seq ?_; refine s_r ?_; refine s_q rfl (y_move rfl) ?_; refine s_q rfl (y_move rfl) ?_; refine tk_act rfl ?_; refine tk_perm _ mv3 ?_; refine tk_perm _ mv3 ?_; refine tk_perm _ mv3 ?_; refine a_callv [] _ rfl (by kernel_rfl) rfl (fun w' hw' => del_spec (s := s) (sb := sb) (mb := mb) (na := drL nm) hok  (St.pre hw')) rfl fun _ _ => ?_
    refine s_q rfl (y_assign rfl) ?_; refine s_n ?_; refine s_r ?_; refine s_q rfl (y_move rfl) ?_; refine tk_qs rfl rfl rfl (y_neq rfl rfl) (fun hs7_1 => ?_) (fun hs7_1 => ?_)
    · skip
      refine s_q rfl (y_move rfl) ?_; refine s_g rfl (y_move rfl) ?_; refine s_g rfl (y_neq rfl rfl) ?_; refine s_q rfl (y_pick1 rfl rfl) ?_; refine s_n ?_; refine tk_condP rfl (fun ht27 => ?_) (fun ht27 => ?_)
      · skip
        refine s_r ?_; refine s_q rfl (y_move rfl) ?_; refine s_q rfl (y_assign rfl) ?_; refine s_n ?_; refine tk_retc ?_; refine tk_then_ret ?_; refine tk_H [cel sb ([Value.map (some mb), I ((s.pub nm (.slice none 0 0) b).1.left), .bool ((s.pub nm (.slice none 0 0) b).1.off), I ((s.pub nm (.slice none 0 0) b).1.made), I ((s.pub nm (.slice none 0 0) b).1.room)]) 192, mapS mb (kvO ((s.del (drL nm)).1.obs)), bag (((s.del (drL nm)).1.obs).map (obR 5)), own v16 nm.length (nm.map B) 5 1] (congrArg (fun z_ => [cel sb z_ 192, mapS mb (kvO ((s.del (drL nm)).1.obs)), bag (((s.del (drL nm)).1.obs).map (obR 5)), own v16 nm.length (nm.map B) 5 1]) (show [Value.map (some mb), I ((s.del (drL nm)).1.left), .bool ((s.del (drL nm)).1.off), I ((s.del (drL nm)).1.made), I ((s.del (drL nm)).1.room)] = [Value.map (some mb), I ((s.pub nm (.slice none 0 0) b).1.left), .bool ((s.pub nm (.slice none 0 0) b).1.off), I ((s.pub nm (.slice none 0 0) b).1.made), I ((s.pub nm (.slice none 0 0) b).1.room)] from by rw [show s.pub nm (.slice none 0 0) b = s.del (drL nm) from pub_d1 hnm ⟨by omega, by omega⟩])) ?_
        refine tk_H [cel sb ([Value.map (some mb), I ((s.pub nm (.slice none 0 0) b).1.left), .bool ((s.pub nm (.slice none 0 0) b).1.off), I ((s.pub nm (.slice none 0 0) b).1.made), I ((s.pub nm (.slice none 0 0) b).1.room)]) 192, mapS mb (kvO ((s.pub nm (.slice none 0 0) b).1.obs)), bag (((s.del (drL nm)).1.obs).map (obR 5)), own v16 nm.length (nm.map B) 5 1] (congrArg (fun z_ => [cel sb ([Value.map (some mb), I ((s.pub nm (.slice none 0 0) b).1.left), .bool ((s.pub nm (.slice none 0 0) b).1.off), I ((s.pub nm (.slice none 0 0) b).1.made), I ((s.pub nm (.slice none 0 0) b).1.room)]) 192, z_, bag (((s.del (drL nm)).1.obs).map (obR 5)), own v16 nm.length (nm.map B) 5 1]) (show mapS mb (kvO ((s.del (drL nm)).1.obs)) = mapS mb (kvO ((s.pub nm (.slice none 0 0) b).1.obs)) from by rw [show s.pub nm (.slice none 0 0) b = s.del (drL nm) from pub_d1 hnm ⟨by omega, by omega⟩])) ?_
        refine tk_H [cel sb ([Value.map (some mb), I ((s.pub nm (.slice none 0 0) b).1.left), .bool ((s.pub nm (.slice none 0 0) b).1.off), I ((s.pub nm (.slice none 0 0) b).1.made), I ((s.pub nm (.slice none 0 0) b).1.room)]) 192, mapS mb (kvO ((s.pub nm (.slice none 0 0) b).1.obs)), bag (((s.pub nm (.slice none 0 0) b).1.obs).map (obR 5)), own v16 nm.length (nm.map B) 5 1] (congrArg (fun z_ => [cel sb ([Value.map (some mb), I ((s.pub nm (.slice none 0 0) b).1.left), .bool ((s.pub nm (.slice none 0 0) b).1.off), I ((s.pub nm (.slice none 0 0) b).1.made), I ((s.pub nm (.slice none 0 0) b).1.room)]) 192, mapS mb (kvO ((s.pub nm (.slice none 0 0) b).1.obs)), z_, own v16 nm.length (nm.map B) 5 1]) (show bag (((s.del (drL nm)).1.obs).map (obR 5)) = bag (((s.pub nm (.slice none 0 0) b).1.obs).map (obR 5)) from by rw [show s.pub nm (.slice none 0 0) b = s.del (drL nm) from pub_d1 hnm ⟨by omega, by omega⟩])) ?_
        refine tk_re 6 (I (((s.del (drL nm)).2 : Nat) : Int)) (I (((s.pub nm (.slice none 0 0) b).2 : Nat) : Int)) rfl (by rw [show s.pub nm (.slice none 0 0) b = s.del (drL nm) from pub_d1 hnm ⟨by omega, by omega⟩]) ?_
        exact tk_ret ((.slice none 0 0)) (trivial) (.inl rfl) (r1 rfl rfl) (.cons_cons _ (.cons_cons _ (.cons_cons _ (List.nil_sublist _))))
      · skip
        refine tk_skip ?_; refine tk_then ?_; refine s_r ?_; refine s_q rfl (y_move rfl) ?_; refine s_q rfl (y_move rfl) ?_; refine s_q rfl (y_move rfl) ?_; refine tk_act rfl ?_; refine a_slitN (vs := [bv]) rfl (List.forall_mem_cons.2 ⟨(RdS.one hb.1), (fun _ h => nomatch h)⟩) (EL206) rfl rfl (by decide) fun b32 => ?_; refine tk_act rfl ?_; refine tk_perm _ mv3 ?_; refine tk_perm _ mv3 ?_; refine tk_perm _ mv3 ?_
        refine a_callv [] _ rfl (by kernel_rfl) rfl (fun w' hw' => put_spec (s := (s.del (drL nm)).1) (sb := sb) (mb := mb) (nm := drL nm) (b := b) (ps := [(bv, b)]) hok1 lenP lenP (Ro.cel (vs := [bv]) hw' (.head _) (by first | rfl | simp) rfl (by decide)) (List.forall_mem_cons.2 ⟨(Ro.call hb hw'), (fun _ h => nomatch h)⟩) (by simp) (St.pre hw')) rfl fun v33 _ => ?_
        have hat2 := at_put (nm := drL nm) (v := v33) (b := b) hat1
        have hok2 : ShOk ((s.del (drL nm)).1.put (drL nm) v33 b).1 := hat2.ok (by omega)
        have hat3 := at_sync (a := drL nm) hat2
        have hok3 : ShOk (((s.del (drL nm)).1.put (drL nm) v33 b).1.sync1 (drL nm)).1 := hat3.ok (by omega)
        have hat4 := at_ren (a := drL nm) (b := nm) hat3
        have hok4 : ShOk ((((s.del (drL nm)).1.put (drL nm) v33 b).1.sync1 (drL nm)).1.ren (drL nm) nm).1 := hat4.ok (by omega)
        refine s_q rfl (y_assign rfl) ?_; refine s_n ?_; refine tk_seq ?_; refine s_r ?_; refine s_q rfl (y_move rfl) ?_; refine s_q rfl (y_neq rfl rfl) ?_; refine s_n ?_; refine tk_condP rfl (fun ht35 => ?_) (fun ht35 => ?_)
        · skip
          refine s_r ?_; refine s_q rfl (y_move rfl) ?_; refine s_q rfl (y_assign rfl) ?_; refine s_n ?_; refine tk_retc ?_; refine tk_then_ret ?_; refine tk_H [cel sb ([Value.map (some mb), I ((s.pub nm v33 b).1.left), .bool ((s.pub nm v33 b).1.off), I ((s.pub nm v33 b).1.made), I ((s.pub nm v33 b).1.room)]) 192, mapS mb (kvO ((((s.del (drL nm)).1).put (drL nm) v33 b).1.obs)), bag (((((s.del (drL nm)).1).put (drL nm) v33 b).1.obs).map (obR 5)), cel b32 ([bv]) 42, own v16 nm.length (nm.map B) 5 1] (congrArg (fun z_ => [cel sb z_ 192, mapS mb (kvO ((((s.del (drL nm)).1).put (drL nm) v33 b).1.obs)), bag (((((s.del (drL nm)).1).put (drL nm) v33 b).1.obs).map (obR 5)), cel b32 ([bv]) 42, own v16 nm.length (nm.map B) 5 1]) (show [Value.map (some mb), I ((((s.del (drL nm)).1).put (drL nm) v33 b).1.left), .bool ((((s.del (drL nm)).1).put (drL nm) v33 b).1.off), I ((((s.del (drL nm)).1).put (drL nm) v33 b).1.made), I ((((s.del (drL nm)).1).put (drL nm) v33 b).1.room)] = [Value.map (some mb), I ((s.pub nm v33 b).1.left), .bool ((s.pub nm v33 b).1.off), I ((s.pub nm v33 b).1.made), I ((s.pub nm v33 b).1.room)] from by rw [show s.pub nm v33 b = ((s.del (drL nm)).1.put (drL nm) v33 b) from pub_d2 hnm (fun q => by omega) (by omega)])) ?_
          refine tk_H [cel sb ([Value.map (some mb), I ((s.pub nm v33 b).1.left), .bool ((s.pub nm v33 b).1.off), I ((s.pub nm v33 b).1.made), I ((s.pub nm v33 b).1.room)]) 192, mapS mb (kvO ((s.pub nm v33 b).1.obs)), bag (((((s.del (drL nm)).1).put (drL nm) v33 b).1.obs).map (obR 5)), cel b32 ([bv]) 42, own v16 nm.length (nm.map B) 5 1] (congrArg (fun z_ => [cel sb ([Value.map (some mb), I ((s.pub nm v33 b).1.left), .bool ((s.pub nm v33 b).1.off), I ((s.pub nm v33 b).1.made), I ((s.pub nm v33 b).1.room)]) 192, z_, bag (((((s.del (drL nm)).1).put (drL nm) v33 b).1.obs).map (obR 5)), cel b32 ([bv]) 42, own v16 nm.length (nm.map B) 5 1]) (show mapS mb (kvO ((((s.del (drL nm)).1).put (drL nm) v33 b).1.obs)) = mapS mb (kvO ((s.pub nm v33 b).1.obs)) from by rw [show s.pub nm v33 b = ((s.del (drL nm)).1.put (drL nm) v33 b) from pub_d2 hnm (fun q => by omega) (by omega)])) ?_
          refine tk_H [cel sb ([Value.map (some mb), I ((s.pub nm v33 b).1.left), .bool ((s.pub nm v33 b).1.off), I ((s.pub nm v33 b).1.made), I ((s.pub nm v33 b).1.room)]) 192, mapS mb (kvO ((s.pub nm v33 b).1.obs)), bag (((s.pub nm v33 b).1.obs).map (obR 5)), cel b32 ([bv]) 42, own v16 nm.length (nm.map B) 5 1] (congrArg (fun z_ => [cel sb ([Value.map (some mb), I ((s.pub nm v33 b).1.left), .bool ((s.pub nm v33 b).1.off), I ((s.pub nm v33 b).1.made), I ((s.pub nm v33 b).1.room)]) 192, mapS mb (kvO ((s.pub nm v33 b).1.obs)), z_, cel b32 ([bv]) 42, own v16 nm.length (nm.map B) 5 1]) (show bag (((((s.del (drL nm)).1).put (drL nm) v33 b).1.obs).map (obR 5)) = bag (((s.pub nm v33 b).1.obs).map (obR 5)) from by rw [show s.pub nm v33 b = ((s.del (drL nm)).1.put (drL nm) v33 b) from pub_d2 hnm (fun q => by omega) (by omega)])) ?_
          refine tk_re 6 (I (((((s.del (drL nm)).1).put (drL nm) v33 b).2 : Nat) : Int)) (I (((s.pub nm v33 b).2 : Nat) : Int)) rfl (by rw [show s.pub nm v33 b = ((s.del (drL nm)).1.put (drL nm) v33 b) from pub_d2 hnm (fun q => by omega) (by omega)]) ?_
          exact tk_ret (v33) (trivial) (.inl rfl) (r1 rfl rfl) (.cons_cons _ (.cons_cons _ (.cons_cons _ (List.nil_sublist _))))
        · skip
          refine tk_skip ?_; refine tk_then ?_; refine tk_seq ?_; refine s_r ?_; refine s_q rfl (y_move rfl) ?_; refine s_q rfl (y_move rfl) ?_; refine tk_act rfl ?_; refine a_slitN (vs := [Str (drL nm)]) rfl (List.forall_mem_cons.2 ⟨rfl, (fun _ h => nomatch h)⟩) (EL23) rfl rfl (by decide) fun b39 => ?_; refine tk_act rfl ?_; refine tk_perm _ mv3 ?_; refine tk_perm _ mv3 ?_; refine tk_perm _ mv3 ?_
          refine a_callv [] _ rfl (by kernel_rfl) rfl (fun w' hw' => sync_spec (s := (((s.del (drL nm)).1).put (drL nm) v33 b).1) (sb := sb) (mb := mb) (na := drL nm) hok2 (Ro.cel (vs := [drL nm].map Str) hw' (.head _) (by first | rfl | simp) rfl (by decide)) (St.pre hw')) rfl fun _ _ => ?_; refine s_q rfl (y_assign rfl) ?_; refine s_n ?_; refine s_r ?_; refine s_q rfl (y_move rfl) ?_; refine s_q rfl (y_eql rfl rfl) ?_
          refine s_n ?_; refine tk_condP rfl (fun ht42 => ?_) (fun ht42 => ?_)
          · skip
            refine tk_region ?_; refine s_q rfl (y_move rfl) ?_; refine s_q rfl (y_move rfl) ?_; refine s_q rfl (y_move rfl) ?_; refine tk_act rfl ?_; refine a_callv [] _ rfl (by kernel_rfl) rfl (fun w' hw' => ren_spec (s := (((((s.del (drL nm)).1).put (drL nm) v33 b).1).sync1 (drL nm)).1) (sb := sb) (mb := mb) (na := drL nm) (nb := nm) hok3 lenP (St.pre hw')) rfl fun _ _ => ?_; refine s_q rfl (y_assign rfl) ?_
            refine s_n ?_; refine tk_seq ?_; refine s_r ?_; refine s_q rfl (y_move rfl) ?_; refine s_q rfl (y_neq rfl rfl) ?_; refine s_n ?_; refine tk_condP rfl (fun ht48 => ?_) (fun ht48 => ?_)
            · skip
              refine tk_region ?_; refine s_q rfl (y_move rfl) ?_; refine s_q rfl (y_move rfl) ?_; refine tk_act rfl ?_; refine a_callv [] _ rfl (by kernel_rfl) rfl (fun w' hw' => del_spec (s := (((((((s.del (drL nm)).1).put (drL nm) v33 b).1).sync1 (drL nm)).1).ren (drL nm) nm).1) (sb := sb) (mb := mb) (na := drL nm) (by first | exact hok4 | exact hok3)  (St.pre hw')) rfl fun _ _ => ?_; refine s_n ?_
              refine s_r ?_; refine s_q rfl (y_move rfl) ?_; refine s_q rfl (y_assign rfl) ?_; refine s_n ?_; refine tk_retc ?_; refine tk_H [cel sb ([Value.map (some mb), I ((s.pub nm v33 b).1.left), .bool ((s.pub nm v33 b).1.off), I ((s.pub nm v33 b).1.made), I ((s.pub nm v33 b).1.room)]) 192, mapS mb (kvO ((((((((((s.del (drL nm)).1).put (drL nm) v33 b).1).sync1 (drL nm)).1).ren (drL nm) nm).1).del (drL nm)).1.obs)), bag (((((((((((s.del (drL nm)).1).put (drL nm) v33 b).1).sync1 (drL nm)).1).ren (drL nm) nm).1).del (drL nm)).1.obs).map (obR 5)), cel b39 ([Str (drL nm)]) 9, cel b32 ([bv]) 42, own v16 nm.length (nm.map B) 5 1] (congrArg (fun z_ => [cel sb z_ 192, mapS mb (kvO ((((((((((s.del (drL nm)).1).put (drL nm) v33 b).1).sync1 (drL nm)).1).ren (drL nm) nm).1).del (drL nm)).1.obs)), bag (((((((((((s.del (drL nm)).1).put (drL nm) v33 b).1).sync1 (drL nm)).1).ren (drL nm) nm).1).del (drL nm)).1.obs).map (obR 5)), cel b39 ([Str (drL nm)]) 9, cel b32 ([bv]) 42, own v16 nm.length (nm.map B) 5 1]) (show [Value.map (some mb), I ((((((((((s.del (drL nm)).1).put (drL nm) v33 b).1).sync1 (drL nm)).1).ren (drL nm) nm).1).del (drL nm)).1.left), .bool ((((((((((s.del (drL nm)).1).put (drL nm) v33 b).1).sync1 (drL nm)).1).ren (drL nm) nm).1).del (drL nm)).1.off), I ((((((((((s.del (drL nm)).1).put (drL nm) v33 b).1).sync1 (drL nm)).1).ren (drL nm) nm).1).del (drL nm)).1.made), I ((((((((((s.del (drL nm)).1).put (drL nm) v33 b).1).sync1 (drL nm)).1).ren (drL nm) nm).1).del (drL nm)).1.room)] = [Value.map (some mb), I ((s.pub nm v33 b).1.left), .bool ((s.pub nm v33 b).1.off), I ((s.pub nm v33 b).1.made), I ((s.pub nm v33 b).1.room)] from by rw [show s.pub nm v33 b = ((((((s.del (drL nm)).1.put (drL nm) v33 b).1.sync1 (drL nm)).1.ren (drL nm) nm).1.del (drL nm)).1, ((((s.del (drL nm)).1.put (drL nm) v33 b).1.sync1 (drL nm)).1.ren (drL nm) nm).2) from (pub_d3 hnm (fun q => by omega) (by omega)).trans (pubK_2 (by omega) (by omega))])) ?_
              refine tk_H [cel sb ([Value.map (some mb), I ((s.pub nm v33 b).1.left), .bool ((s.pub nm v33 b).1.off), I ((s.pub nm v33 b).1.made), I ((s.pub nm v33 b).1.room)]) 192, mapS mb (kvO ((s.pub nm v33 b).1.obs)), bag (((((((((((s.del (drL nm)).1).put (drL nm) v33 b).1).sync1 (drL nm)).1).ren (drL nm) nm).1).del (drL nm)).1.obs).map (obR 5)), cel b39 ([Str (drL nm)]) 9, cel b32 ([bv]) 42, own v16 nm.length (nm.map B) 5 1] (congrArg (fun z_ => [cel sb ([Value.map (some mb), I ((s.pub nm v33 b).1.left), .bool ((s.pub nm v33 b).1.off), I ((s.pub nm v33 b).1.made), I ((s.pub nm v33 b).1.room)]) 192, z_, bag (((((((((((s.del (drL nm)).1).put (drL nm) v33 b).1).sync1 (drL nm)).1).ren (drL nm) nm).1).del (drL nm)).1.obs).map (obR 5)), cel b39 ([Str (drL nm)]) 9, cel b32 ([bv]) 42, own v16 nm.length (nm.map B) 5 1]) (show mapS mb (kvO ((((((((((s.del (drL nm)).1).put (drL nm) v33 b).1).sync1 (drL nm)).1).ren (drL nm) nm).1).del (drL nm)).1.obs)) = mapS mb (kvO ((s.pub nm v33 b).1.obs)) from by rw [show s.pub nm v33 b = ((((((s.del (drL nm)).1.put (drL nm) v33 b).1.sync1 (drL nm)).1.ren (drL nm) nm).1.del (drL nm)).1, ((((s.del (drL nm)).1.put (drL nm) v33 b).1.sync1 (drL nm)).1.ren (drL nm) nm).2) from (pub_d3 hnm (fun q => by omega) (by omega)).trans (pubK_2 (by omega) (by omega))])) ?_
              refine tk_H [cel sb ([Value.map (some mb), I ((s.pub nm v33 b).1.left), .bool ((s.pub nm v33 b).1.off), I ((s.pub nm v33 b).1.made), I ((s.pub nm v33 b).1.room)]) 192, mapS mb (kvO ((s.pub nm v33 b).1.obs)), bag (((s.pub nm v33 b).1.obs).map (obR 5)), cel b39 ([Str (drL nm)]) 9, cel b32 ([bv]) 42, own v16 nm.length (nm.map B) 5 1] (congrArg (fun z_ => [cel sb ([Value.map (some mb), I ((s.pub nm v33 b).1.left), .bool ((s.pub nm v33 b).1.off), I ((s.pub nm v33 b).1.made), I ((s.pub nm v33 b).1.room)]) 192, mapS mb (kvO ((s.pub nm v33 b).1.obs)), z_, cel b39 ([Str (drL nm)]) 9, cel b32 ([bv]) 42, own v16 nm.length (nm.map B) 5 1]) (show bag (((((((((((s.del (drL nm)).1).put (drL nm) v33 b).1).sync1 (drL nm)).1).ren (drL nm) nm).1).del (drL nm)).1.obs).map (obR 5)) = bag (((s.pub nm v33 b).1.obs).map (obR 5)) from by rw [show s.pub nm v33 b = ((((((s.del (drL nm)).1.put (drL nm) v33 b).1.sync1 (drL nm)).1.ren (drL nm) nm).1.del (drL nm)).1, ((((s.del (drL nm)).1.put (drL nm) v33 b).1.sync1 (drL nm)).1.ren (drL nm) nm).2) from (pub_d3 hnm (fun q => by omega) (by omega)).trans (pubK_2 (by omega) (by omega))])) ?_
              refine tk_re 6 (I (((((((((s.del (drL nm)).1).put (drL nm) v33 b).1).sync1 (drL nm)).1).ren (drL nm) nm).2 : Nat) : Int)) (I (((s.pub nm v33 b).2 : Nat) : Int)) rfl (by rw [show s.pub nm v33 b = ((((((s.del (drL nm)).1.put (drL nm) v33 b).1.sync1 (drL nm)).1.ren (drL nm) nm).1.del (drL nm)).1, ((((s.del (drL nm)).1.put (drL nm) v33 b).1.sync1 (drL nm)).1.ren (drL nm) nm).2) from (pub_d3 hnm (fun q => by omega) (by omega)).trans (pubK_2 (by omega) (by omega))]) ?_
              exact tk_ret (v33) (trivial) (.inl rfl) (r1 rfl rfl) (.cons_cons _ (.cons_cons _ (.cons_cons _ (List.nil_sublist _))))
            · skip
              refine tk_skip ?_; refine tk_then ?_; refine s_r ?_; refine s_q rfl (y_move rfl) ?_; refine s_q rfl (y_assign rfl) ?_; refine s_n ?_; refine tk_retc ?_; refine tk_H [cel sb ([Value.map (some mb), I ((s.pub nm v33 b).1.left), .bool ((s.pub nm v33 b).1.off), I ((s.pub nm v33 b).1.made), I ((s.pub nm v33 b).1.room)]) 192, mapS mb (kvO ((((((((s.del (drL nm)).1).put (drL nm) v33 b).1).sync1 (drL nm)).1).ren (drL nm) nm).1.obs)), bag (((((((((s.del (drL nm)).1).put (drL nm) v33 b).1).sync1 (drL nm)).1).ren (drL nm) nm).1.obs).map (obR 5)), cel b39 ([Str (drL nm)]) 9, cel b32 ([bv]) 42, own v16 nm.length (nm.map B) 5 1] (congrArg (fun z_ => [cel sb z_ 192, mapS mb (kvO ((((((((s.del (drL nm)).1).put (drL nm) v33 b).1).sync1 (drL nm)).1).ren (drL nm) nm).1.obs)), bag (((((((((s.del (drL nm)).1).put (drL nm) v33 b).1).sync1 (drL nm)).1).ren (drL nm) nm).1.obs).map (obR 5)), cel b39 ([Str (drL nm)]) 9, cel b32 ([bv]) 42, own v16 nm.length (nm.map B) 5 1]) (show [Value.map (some mb), I ((((((((s.del (drL nm)).1).put (drL nm) v33 b).1).sync1 (drL nm)).1).ren (drL nm) nm).1.left), .bool ((((((((s.del (drL nm)).1).put (drL nm) v33 b).1).sync1 (drL nm)).1).ren (drL nm) nm).1.off), I ((((((((s.del (drL nm)).1).put (drL nm) v33 b).1).sync1 (drL nm)).1).ren (drL nm) nm).1.made), I ((((((((s.del (drL nm)).1).put (drL nm) v33 b).1).sync1 (drL nm)).1).ren (drL nm) nm).1.room)] = [Value.map (some mb), I ((s.pub nm v33 b).1.left), .bool ((s.pub nm v33 b).1.off), I ((s.pub nm v33 b).1.made), I ((s.pub nm v33 b).1.room)] from by rw [show s.pub nm v33 b = ((((s.del (drL nm)).1.put (drL nm) v33 b).1.sync1 (drL nm)).1.ren (drL nm) nm) from (pub_d3 hnm (fun q => by omega) (by omega)).trans (pubK_3 (by omega) (by omega))])) ?_
              refine tk_H [cel sb ([Value.map (some mb), I ((s.pub nm v33 b).1.left), .bool ((s.pub nm v33 b).1.off), I ((s.pub nm v33 b).1.made), I ((s.pub nm v33 b).1.room)]) 192, mapS mb (kvO ((s.pub nm v33 b).1.obs)), bag (((((((((s.del (drL nm)).1).put (drL nm) v33 b).1).sync1 (drL nm)).1).ren (drL nm) nm).1.obs).map (obR 5)), cel b39 ([Str (drL nm)]) 9, cel b32 ([bv]) 42, own v16 nm.length (nm.map B) 5 1] (congrArg (fun z_ => [cel sb ([Value.map (some mb), I ((s.pub nm v33 b).1.left), .bool ((s.pub nm v33 b).1.off), I ((s.pub nm v33 b).1.made), I ((s.pub nm v33 b).1.room)]) 192, z_, bag (((((((((s.del (drL nm)).1).put (drL nm) v33 b).1).sync1 (drL nm)).1).ren (drL nm) nm).1.obs).map (obR 5)), cel b39 ([Str (drL nm)]) 9, cel b32 ([bv]) 42, own v16 nm.length (nm.map B) 5 1]) (show mapS mb (kvO ((((((((s.del (drL nm)).1).put (drL nm) v33 b).1).sync1 (drL nm)).1).ren (drL nm) nm).1.obs)) = mapS mb (kvO ((s.pub nm v33 b).1.obs)) from by rw [show s.pub nm v33 b = ((((s.del (drL nm)).1.put (drL nm) v33 b).1.sync1 (drL nm)).1.ren (drL nm) nm) from (pub_d3 hnm (fun q => by omega) (by omega)).trans (pubK_3 (by omega) (by omega))])) ?_
              refine tk_H [cel sb ([Value.map (some mb), I ((s.pub nm v33 b).1.left), .bool ((s.pub nm v33 b).1.off), I ((s.pub nm v33 b).1.made), I ((s.pub nm v33 b).1.room)]) 192, mapS mb (kvO ((s.pub nm v33 b).1.obs)), bag (((s.pub nm v33 b).1.obs).map (obR 5)), cel b39 ([Str (drL nm)]) 9, cel b32 ([bv]) 42, own v16 nm.length (nm.map B) 5 1] (congrArg (fun z_ => [cel sb ([Value.map (some mb), I ((s.pub nm v33 b).1.left), .bool ((s.pub nm v33 b).1.off), I ((s.pub nm v33 b).1.made), I ((s.pub nm v33 b).1.room)]) 192, mapS mb (kvO ((s.pub nm v33 b).1.obs)), z_, cel b39 ([Str (drL nm)]) 9, cel b32 ([bv]) 42, own v16 nm.length (nm.map B) 5 1]) (show bag (((((((((s.del (drL nm)).1).put (drL nm) v33 b).1).sync1 (drL nm)).1).ren (drL nm) nm).1.obs).map (obR 5)) = bag (((s.pub nm v33 b).1.obs).map (obR 5)) from by rw [show s.pub nm v33 b = ((((s.del (drL nm)).1.put (drL nm) v33 b).1.sync1 (drL nm)).1.ren (drL nm) nm) from (pub_d3 hnm (fun q => by omega) (by omega)).trans (pubK_3 (by omega) (by omega))])) ?_
              refine tk_re 6 (I (((((((((s.del (drL nm)).1).put (drL nm) v33 b).1).sync1 (drL nm)).1).ren (drL nm) nm).2 : Nat) : Int)) (I (((s.pub nm v33 b).2 : Nat) : Int)) rfl (by rw [show s.pub nm v33 b = ((((s.del (drL nm)).1.put (drL nm) v33 b).1.sync1 (drL nm)).1.ren (drL nm) nm) from (pub_d3 hnm (fun q => by omega) (by omega)).trans (pubK_3 (by omega) (by omega))]) ?_
              exact tk_ret (v33) (trivial) (.inl rfl) (r1 rfl rfl) (.cons_cons _ (.cons_cons _ (.cons_cons _ (List.nil_sublist _))))
          · skip
            refine tk_skip ?_; refine tk_then ?_; refine tk_seq ?_; refine s_r ?_; refine s_q rfl (y_move rfl) ?_; refine s_q rfl (y_neq rfl rfl) ?_; refine s_n ?_; refine tk_condP rfl (fun ht48 => ?_) (fun ht48 => ?_)
            · skip
              refine tk_region ?_; refine s_q rfl (y_move rfl) ?_; refine s_q rfl (y_move rfl) ?_; refine tk_act rfl ?_; refine a_callv [] _ rfl (by kernel_rfl) rfl (fun w' hw' => del_spec (s := (((((s.del (drL nm)).1).put (drL nm) v33 b).1).sync1 (drL nm)).1) (sb := sb) (mb := mb) (na := drL nm) (by first | exact hok4 | exact hok3)  (St.pre hw')) rfl fun _ _ => ?_; refine s_n ?_; refine s_r ?_; refine s_q rfl (y_move rfl) ?_
              refine s_q rfl (y_assign rfl) ?_; refine s_n ?_; refine tk_retc ?_; refine tk_H [cel sb ([Value.map (some mb), I ((s.pub nm v33 b).1.left), .bool ((s.pub nm v33 b).1.off), I ((s.pub nm v33 b).1.made), I ((s.pub nm v33 b).1.room)]) 192, mapS mb (kvO ((((((((s.del (drL nm)).1).put (drL nm) v33 b).1).sync1 (drL nm)).1).del (drL nm)).1.obs)), bag (((((((((s.del (drL nm)).1).put (drL nm) v33 b).1).sync1 (drL nm)).1).del (drL nm)).1.obs).map (obR 5)), cel b39 ([Str (drL nm)]) 9, cel b32 ([bv]) 42, own v16 nm.length (nm.map B) 5 1] (congrArg (fun z_ => [cel sb z_ 192, mapS mb (kvO ((((((((s.del (drL nm)).1).put (drL nm) v33 b).1).sync1 (drL nm)).1).del (drL nm)).1.obs)), bag (((((((((s.del (drL nm)).1).put (drL nm) v33 b).1).sync1 (drL nm)).1).del (drL nm)).1.obs).map (obR 5)), cel b39 ([Str (drL nm)]) 9, cel b32 ([bv]) 42, own v16 nm.length (nm.map B) 5 1]) (show [Value.map (some mb), I ((((((((s.del (drL nm)).1).put (drL nm) v33 b).1).sync1 (drL nm)).1).del (drL nm)).1.left), .bool ((((((((s.del (drL nm)).1).put (drL nm) v33 b).1).sync1 (drL nm)).1).del (drL nm)).1.off), I ((((((((s.del (drL nm)).1).put (drL nm) v33 b).1).sync1 (drL nm)).1).del (drL nm)).1.made), I ((((((((s.del (drL nm)).1).put (drL nm) v33 b).1).sync1 (drL nm)).1).del (drL nm)).1.room)] = [Value.map (some mb), I ((s.pub nm v33 b).1.left), .bool ((s.pub nm v33 b).1.off), I ((s.pub nm v33 b).1.made), I ((s.pub nm v33 b).1.room)] from by rw [show s.pub nm v33 b = (((((s.del (drL nm)).1.put (drL nm) v33 b).1.sync1 (drL nm)).1.del (drL nm)).1, (((s.del (drL nm)).1.put (drL nm) v33 b).1.sync1 (drL nm)).2) from (pub_d3 hnm (fun q => by omega) (by omega)).trans (pubK_1 (by omega))])) ?_
              refine tk_H [cel sb ([Value.map (some mb), I ((s.pub nm v33 b).1.left), .bool ((s.pub nm v33 b).1.off), I ((s.pub nm v33 b).1.made), I ((s.pub nm v33 b).1.room)]) 192, mapS mb (kvO ((s.pub nm v33 b).1.obs)), bag (((((((((s.del (drL nm)).1).put (drL nm) v33 b).1).sync1 (drL nm)).1).del (drL nm)).1.obs).map (obR 5)), cel b39 ([Str (drL nm)]) 9, cel b32 ([bv]) 42, own v16 nm.length (nm.map B) 5 1] (congrArg (fun z_ => [cel sb ([Value.map (some mb), I ((s.pub nm v33 b).1.left), .bool ((s.pub nm v33 b).1.off), I ((s.pub nm v33 b).1.made), I ((s.pub nm v33 b).1.room)]) 192, z_, bag (((((((((s.del (drL nm)).1).put (drL nm) v33 b).1).sync1 (drL nm)).1).del (drL nm)).1.obs).map (obR 5)), cel b39 ([Str (drL nm)]) 9, cel b32 ([bv]) 42, own v16 nm.length (nm.map B) 5 1]) (show mapS mb (kvO ((((((((s.del (drL nm)).1).put (drL nm) v33 b).1).sync1 (drL nm)).1).del (drL nm)).1.obs)) = mapS mb (kvO ((s.pub nm v33 b).1.obs)) from by rw [show s.pub nm v33 b = (((((s.del (drL nm)).1.put (drL nm) v33 b).1.sync1 (drL nm)).1.del (drL nm)).1, (((s.del (drL nm)).1.put (drL nm) v33 b).1.sync1 (drL nm)).2) from (pub_d3 hnm (fun q => by omega) (by omega)).trans (pubK_1 (by omega))])) ?_
              refine tk_H [cel sb ([Value.map (some mb), I ((s.pub nm v33 b).1.left), .bool ((s.pub nm v33 b).1.off), I ((s.pub nm v33 b).1.made), I ((s.pub nm v33 b).1.room)]) 192, mapS mb (kvO ((s.pub nm v33 b).1.obs)), bag (((s.pub nm v33 b).1.obs).map (obR 5)), cel b39 ([Str (drL nm)]) 9, cel b32 ([bv]) 42, own v16 nm.length (nm.map B) 5 1] (congrArg (fun z_ => [cel sb ([Value.map (some mb), I ((s.pub nm v33 b).1.left), .bool ((s.pub nm v33 b).1.off), I ((s.pub nm v33 b).1.made), I ((s.pub nm v33 b).1.room)]) 192, mapS mb (kvO ((s.pub nm v33 b).1.obs)), z_, cel b39 ([Str (drL nm)]) 9, cel b32 ([bv]) 42, own v16 nm.length (nm.map B) 5 1]) (show bag (((((((((s.del (drL nm)).1).put (drL nm) v33 b).1).sync1 (drL nm)).1).del (drL nm)).1.obs).map (obR 5)) = bag (((s.pub nm v33 b).1.obs).map (obR 5)) from by rw [show s.pub nm v33 b = (((((s.del (drL nm)).1.put (drL nm) v33 b).1.sync1 (drL nm)).1.del (drL nm)).1, (((s.del (drL nm)).1.put (drL nm) v33 b).1.sync1 (drL nm)).2) from (pub_d3 hnm (fun q => by omega) (by omega)).trans (pubK_1 (by omega))])) ?_
              refine tk_re 6 (I (((((((s.del (drL nm)).1).put (drL nm) v33 b).1).sync1 (drL nm)).2 : Nat) : Int)) (I (((s.pub nm v33 b).2 : Nat) : Int)) rfl (by rw [show s.pub nm v33 b = (((((s.del (drL nm)).1.put (drL nm) v33 b).1.sync1 (drL nm)).1.del (drL nm)).1, (((s.del (drL nm)).1.put (drL nm) v33 b).1.sync1 (drL nm)).2) from (pub_d3 hnm (fun q => by omega) (by omega)).trans (pubK_1 (by omega))]) ?_
              exact tk_ret (v33) (trivial) (.inl rfl) (r1 rfl rfl) (.cons_cons _ (.cons_cons _ (.cons_cons _ (List.nil_sublist _))))
            · skip
              refine tk_skip ?_; refine tk_then ?_; refine s_r ?_; refine s_q rfl (y_move rfl) ?_; refine s_q rfl (y_assign rfl) ?_; refine s_n ?_; refine tk_retc ?_; refine tk_H [cel sb ([Value.map (some mb), I ((s.pub nm v33 b).1.left), .bool ((s.pub nm v33 b).1.off), I ((s.pub nm v33 b).1.made), I ((s.pub nm v33 b).1.room)]) 192, mapS mb (kvO ((((((s.del (drL nm)).1).put (drL nm) v33 b).1).sync1 (drL nm)).1.obs)), bag (((((((s.del (drL nm)).1).put (drL nm) v33 b).1).sync1 (drL nm)).1.obs).map (obR 5)), cel b39 ([Str (drL nm)]) 9, cel b32 ([bv]) 42, own v16 nm.length (nm.map B) 5 1] (congrArg (fun z_ => [cel sb z_ 192, mapS mb (kvO ((((((s.del (drL nm)).1).put (drL nm) v33 b).1).sync1 (drL nm)).1.obs)), bag (((((((s.del (drL nm)).1).put (drL nm) v33 b).1).sync1 (drL nm)).1.obs).map (obR 5)), cel b39 ([Str (drL nm)]) 9, cel b32 ([bv]) 42, own v16 nm.length (nm.map B) 5 1]) (show [Value.map (some mb), I ((((((s.del (drL nm)).1).put (drL nm) v33 b).1).sync1 (drL nm)).1.left), .bool ((((((s.del (drL nm)).1).put (drL nm) v33 b).1).sync1 (drL nm)).1.off), I ((((((s.del (drL nm)).1).put (drL nm) v33 b).1).sync1 (drL nm)).1.made), I ((((((s.del (drL nm)).1).put (drL nm) v33 b).1).sync1 (drL nm)).1.room)] = [Value.map (some mb), I ((s.pub nm v33 b).1.left), .bool ((s.pub nm v33 b).1.off), I ((s.pub nm v33 b).1.made), I ((s.pub nm v33 b).1.room)] from by rw [show s.pub nm v33 b = (((s.del (drL nm)).1.put (drL nm) v33 b).1.sync1 (drL nm)) from (pub_d3 hnm (fun q => by omega) (by omega)).trans (absurd (show ((((s.del (drL nm)).1.put (drL nm) v33 b).1.sync1 (drL nm)).2) = 0 by omega) (by omega))])) ?_
              refine tk_H [cel sb ([Value.map (some mb), I ((s.pub nm v33 b).1.left), .bool ((s.pub nm v33 b).1.off), I ((s.pub nm v33 b).1.made), I ((s.pub nm v33 b).1.room)]) 192, mapS mb (kvO ((s.pub nm v33 b).1.obs)), bag (((((((s.del (drL nm)).1).put (drL nm) v33 b).1).sync1 (drL nm)).1.obs).map (obR 5)), cel b39 ([Str (drL nm)]) 9, cel b32 ([bv]) 42, own v16 nm.length (nm.map B) 5 1] (congrArg (fun z_ => [cel sb ([Value.map (some mb), I ((s.pub nm v33 b).1.left), .bool ((s.pub nm v33 b).1.off), I ((s.pub nm v33 b).1.made), I ((s.pub nm v33 b).1.room)]) 192, z_, bag (((((((s.del (drL nm)).1).put (drL nm) v33 b).1).sync1 (drL nm)).1.obs).map (obR 5)), cel b39 ([Str (drL nm)]) 9, cel b32 ([bv]) 42, own v16 nm.length (nm.map B) 5 1]) (show mapS mb (kvO ((((((s.del (drL nm)).1).put (drL nm) v33 b).1).sync1 (drL nm)).1.obs)) = mapS mb (kvO ((s.pub nm v33 b).1.obs)) from by rw [show s.pub nm v33 b = (((s.del (drL nm)).1.put (drL nm) v33 b).1.sync1 (drL nm)) from (pub_d3 hnm (fun q => by omega) (by omega)).trans (absurd (show ((((s.del (drL nm)).1.put (drL nm) v33 b).1.sync1 (drL nm)).2) = 0 by omega) (by omega))])) ?_
              refine tk_H [cel sb ([Value.map (some mb), I ((s.pub nm v33 b).1.left), .bool ((s.pub nm v33 b).1.off), I ((s.pub nm v33 b).1.made), I ((s.pub nm v33 b).1.room)]) 192, mapS mb (kvO ((s.pub nm v33 b).1.obs)), bag (((s.pub nm v33 b).1.obs).map (obR 5)), cel b39 ([Str (drL nm)]) 9, cel b32 ([bv]) 42, own v16 nm.length (nm.map B) 5 1] (congrArg (fun z_ => [cel sb ([Value.map (some mb), I ((s.pub nm v33 b).1.left), .bool ((s.pub nm v33 b).1.off), I ((s.pub nm v33 b).1.made), I ((s.pub nm v33 b).1.room)]) 192, mapS mb (kvO ((s.pub nm v33 b).1.obs)), z_, cel b39 ([Str (drL nm)]) 9, cel b32 ([bv]) 42, own v16 nm.length (nm.map B) 5 1]) (show bag (((((((s.del (drL nm)).1).put (drL nm) v33 b).1).sync1 (drL nm)).1.obs).map (obR 5)) = bag (((s.pub nm v33 b).1.obs).map (obR 5)) from by rw [show s.pub nm v33 b = (((s.del (drL nm)).1.put (drL nm) v33 b).1.sync1 (drL nm)) from (pub_d3 hnm (fun q => by omega) (by omega)).trans (absurd (show ((((s.del (drL nm)).1.put (drL nm) v33 b).1.sync1 (drL nm)).2) = 0 by omega) (by omega))])) ?_
              refine tk_re 6 (I (((((((s.del (drL nm)).1).put (drL nm) v33 b).1).sync1 (drL nm)).2 : Nat) : Int)) (I (((s.pub nm v33 b).2 : Nat) : Int)) rfl (by rw [show s.pub nm v33 b = (((s.del (drL nm)).1.put (drL nm) v33 b).1.sync1 (drL nm)) from (pub_d3 hnm (fun q => by omega) (by omega)).trans (absurd (show ((((s.del (drL nm)).1.put (drL nm) v33 b).1.sync1 (drL nm)).2) = 0 by omega) (by omega))]) ?_
              exact tk_ret (v33) (trivial) (.inl rfl) (r1 rfl rfl) (.cons_cons _ (.cons_cons _ (.cons_cons _ (List.nil_sublist _))))
    · skip
      refine s_q rfl (y_move rfl) ?_; refine tk_gno rfl rfl rfl ?_; refine tk_gno rfl rfl rfl ?_; refine s_q rfl (y_pick0 rfl rfl) ?_; refine s_n ?_; refine tk_cond0 rfl ?_; refine tk_skip ?_; refine tk_then ?_; refine s_r ?_; refine s_q rfl (y_move rfl) ?_; refine s_q rfl (y_move rfl) ?_; refine s_q rfl (y_move rfl) ?_; refine tk_act rfl ?_; refine a_slitN (vs := [bv]) rfl (List.forall_mem_cons.2 ⟨(RdS.one hb.1), (fun _ h => nomatch h)⟩) (EL206) rfl rfl (by decide) fun b32 => ?_
      refine tk_act rfl ?_; refine tk_perm _ mv3 ?_; refine tk_perm _ mv3 ?_; refine tk_perm _ mv3 ?_; refine a_callv [] _ rfl (by kernel_rfl) rfl (fun w' hw' => put_spec (s := (s.del (drL nm)).1) (sb := sb) (mb := mb) (nm := drL nm) (b := b) (ps := [(bv, b)]) hok1 lenP lenP (Ro.cel (vs := [bv]) hw' (.head _) (by first | rfl | simp) rfl (by decide)) (List.forall_mem_cons.2 ⟨(Ro.call hb hw'), (fun _ h => nomatch h)⟩) (by simp) (St.pre hw')) rfl fun v33 _ => ?_
      have hat2 := at_put (nm := drL nm) (v := v33) (b := b) hat1
      have hok2 : ShOk ((s.del (drL nm)).1.put (drL nm) v33 b).1 := hat2.ok (by omega)
      have hat3 := at_sync (a := drL nm) hat2
      have hok3 : ShOk (((s.del (drL nm)).1.put (drL nm) v33 b).1.sync1 (drL nm)).1 := hat3.ok (by omega)
      have hat4 := at_ren (a := drL nm) (b := nm) hat3
      have hok4 : ShOk ((((s.del (drL nm)).1.put (drL nm) v33 b).1.sync1 (drL nm)).1.ren (drL nm) nm).1 := hat4.ok (by omega)
      refine s_q rfl (y_assign rfl) ?_; refine s_n ?_; refine tk_seq ?_; refine s_r ?_; refine s_q rfl (y_move rfl) ?_; refine s_q rfl (y_neq rfl rfl) ?_; refine s_n ?_; refine tk_condP rfl (fun ht35 => ?_) (fun ht35 => ?_)
      · skip
        refine s_r ?_; refine s_q rfl (y_move rfl) ?_; refine s_q rfl (y_assign rfl) ?_; refine s_n ?_; refine tk_retc ?_; refine tk_then_ret ?_; refine tk_H [cel sb ([Value.map (some mb), I ((s.pub nm v33 b).1.left), .bool ((s.pub nm v33 b).1.off), I ((s.pub nm v33 b).1.made), I ((s.pub nm v33 b).1.room)]) 192, mapS mb (kvO ((((s.del (drL nm)).1).put (drL nm) v33 b).1.obs)), bag (((((s.del (drL nm)).1).put (drL nm) v33 b).1.obs).map (obR 5)), cel b32 ([bv]) 42, own v16 nm.length (nm.map B) 5 1] (congrArg (fun z_ => [cel sb z_ 192, mapS mb (kvO ((((s.del (drL nm)).1).put (drL nm) v33 b).1.obs)), bag (((((s.del (drL nm)).1).put (drL nm) v33 b).1.obs).map (obR 5)), cel b32 ([bv]) 42, own v16 nm.length (nm.map B) 5 1]) (show [Value.map (some mb), I ((((s.del (drL nm)).1).put (drL nm) v33 b).1.left), .bool ((((s.del (drL nm)).1).put (drL nm) v33 b).1.off), I ((((s.del (drL nm)).1).put (drL nm) v33 b).1.made), I ((((s.del (drL nm)).1).put (drL nm) v33 b).1.room)] = [Value.map (some mb), I ((s.pub nm v33 b).1.left), .bool ((s.pub nm v33 b).1.off), I ((s.pub nm v33 b).1.made), I ((s.pub nm v33 b).1.room)] from by rw [show s.pub nm v33 b = ((s.del (drL nm)).1.put (drL nm) v33 b) from pub_d2 hnm (fun q => by omega) (by omega)])) ?_
        refine tk_H [cel sb ([Value.map (some mb), I ((s.pub nm v33 b).1.left), .bool ((s.pub nm v33 b).1.off), I ((s.pub nm v33 b).1.made), I ((s.pub nm v33 b).1.room)]) 192, mapS mb (kvO ((s.pub nm v33 b).1.obs)), bag (((((s.del (drL nm)).1).put (drL nm) v33 b).1.obs).map (obR 5)), cel b32 ([bv]) 42, own v16 nm.length (nm.map B) 5 1] (congrArg (fun z_ => [cel sb ([Value.map (some mb), I ((s.pub nm v33 b).1.left), .bool ((s.pub nm v33 b).1.off), I ((s.pub nm v33 b).1.made), I ((s.pub nm v33 b).1.room)]) 192, z_, bag (((((s.del (drL nm)).1).put (drL nm) v33 b).1.obs).map (obR 5)), cel b32 ([bv]) 42, own v16 nm.length (nm.map B) 5 1]) (show mapS mb (kvO ((((s.del (drL nm)).1).put (drL nm) v33 b).1.obs)) = mapS mb (kvO ((s.pub nm v33 b).1.obs)) from by rw [show s.pub nm v33 b = ((s.del (drL nm)).1.put (drL nm) v33 b) from pub_d2 hnm (fun q => by omega) (by omega)])) ?_
        refine tk_H [cel sb ([Value.map (some mb), I ((s.pub nm v33 b).1.left), .bool ((s.pub nm v33 b).1.off), I ((s.pub nm v33 b).1.made), I ((s.pub nm v33 b).1.room)]) 192, mapS mb (kvO ((s.pub nm v33 b).1.obs)), bag (((s.pub nm v33 b).1.obs).map (obR 5)), cel b32 ([bv]) 42, own v16 nm.length (nm.map B) 5 1] (congrArg (fun z_ => [cel sb ([Value.map (some mb), I ((s.pub nm v33 b).1.left), .bool ((s.pub nm v33 b).1.off), I ((s.pub nm v33 b).1.made), I ((s.pub nm v33 b).1.room)]) 192, mapS mb (kvO ((s.pub nm v33 b).1.obs)), z_, cel b32 ([bv]) 42, own v16 nm.length (nm.map B) 5 1]) (show bag (((((s.del (drL nm)).1).put (drL nm) v33 b).1.obs).map (obR 5)) = bag (((s.pub nm v33 b).1.obs).map (obR 5)) from by rw [show s.pub nm v33 b = ((s.del (drL nm)).1.put (drL nm) v33 b) from pub_d2 hnm (fun q => by omega) (by omega)])) ?_
        refine tk_re 6 (I (((((s.del (drL nm)).1).put (drL nm) v33 b).2 : Nat) : Int)) (I (((s.pub nm v33 b).2 : Nat) : Int)) rfl (by rw [show s.pub nm v33 b = ((s.del (drL nm)).1.put (drL nm) v33 b) from pub_d2 hnm (fun q => by omega) (by omega)]) ?_
        exact tk_ret (v33) (trivial) (.inl rfl) (r1 rfl rfl) (.cons_cons _ (.cons_cons _ (.cons_cons _ (List.nil_sublist _))))
      · skip
        refine tk_skip ?_; refine tk_then ?_; refine tk_seq ?_; refine s_r ?_; refine s_q rfl (y_move rfl) ?_; refine s_q rfl (y_move rfl) ?_; refine tk_act rfl ?_; refine a_slitN (vs := [Str (drL nm)]) rfl (List.forall_mem_cons.2 ⟨rfl, (fun _ h => nomatch h)⟩) (EL23) rfl rfl (by decide) fun b39 => ?_; refine tk_act rfl ?_; refine tk_perm _ mv3 ?_; refine tk_perm _ mv3 ?_; refine tk_perm _ mv3 ?_; refine a_callv [] _ rfl (by kernel_rfl) rfl (fun w' hw' => sync_spec (s := (((s.del (drL nm)).1).put (drL nm) v33 b).1) (sb := sb) (mb := mb) (na := drL nm) hok2 (Ro.cel (vs := [drL nm].map Str) hw' (.head _) (by first | rfl | simp) rfl (by decide)) (St.pre hw')) rfl fun _ _ => ?_
        refine s_q rfl (y_assign rfl) ?_; refine s_n ?_; refine s_r ?_; refine s_q rfl (y_move rfl) ?_; refine s_q rfl (y_eql rfl rfl) ?_; refine s_n ?_; refine tk_condP rfl (fun ht42 => ?_) (fun ht42 => ?_)
        · skip
          refine tk_region ?_; refine s_q rfl (y_move rfl) ?_; refine s_q rfl (y_move rfl) ?_; refine s_q rfl (y_move rfl) ?_; refine tk_act rfl ?_; refine a_callv [] _ rfl (by kernel_rfl) rfl (fun w' hw' => ren_spec (s := (((((s.del (drL nm)).1).put (drL nm) v33 b).1).sync1 (drL nm)).1) (sb := sb) (mb := mb) (na := drL nm) (nb := nm) hok3 lenP (St.pre hw')) rfl fun _ _ => ?_; refine s_q rfl (y_assign rfl) ?_
          refine s_n ?_; refine tk_seq ?_; refine s_r ?_; refine s_q rfl (y_move rfl) ?_; refine s_q rfl (y_neq rfl rfl) ?_; refine s_n ?_; refine tk_condP rfl (fun ht48 => ?_) (fun ht48 => ?_)
          · skip
            refine tk_region ?_; refine s_q rfl (y_move rfl) ?_; refine s_q rfl (y_move rfl) ?_; refine tk_act rfl ?_; refine a_callv [] _ rfl (by kernel_rfl) rfl (fun w' hw' => del_spec (s := (((((((s.del (drL nm)).1).put (drL nm) v33 b).1).sync1 (drL nm)).1).ren (drL nm) nm).1) (sb := sb) (mb := mb) (na := drL nm) (by first | exact hok4 | exact hok3)  (St.pre hw')) rfl fun _ _ => ?_; refine s_n ?_
            refine s_r ?_; refine s_q rfl (y_move rfl) ?_; refine s_q rfl (y_assign rfl) ?_; refine s_n ?_; refine tk_retc ?_; refine tk_H [cel sb ([Value.map (some mb), I ((s.pub nm v33 b).1.left), .bool ((s.pub nm v33 b).1.off), I ((s.pub nm v33 b).1.made), I ((s.pub nm v33 b).1.room)]) 192, mapS mb (kvO ((((((((((s.del (drL nm)).1).put (drL nm) v33 b).1).sync1 (drL nm)).1).ren (drL nm) nm).1).del (drL nm)).1.obs)), bag (((((((((((s.del (drL nm)).1).put (drL nm) v33 b).1).sync1 (drL nm)).1).ren (drL nm) nm).1).del (drL nm)).1.obs).map (obR 5)), cel b39 ([Str (drL nm)]) 9, cel b32 ([bv]) 42, own v16 nm.length (nm.map B) 5 1] (congrArg (fun z_ => [cel sb z_ 192, mapS mb (kvO ((((((((((s.del (drL nm)).1).put (drL nm) v33 b).1).sync1 (drL nm)).1).ren (drL nm) nm).1).del (drL nm)).1.obs)), bag (((((((((((s.del (drL nm)).1).put (drL nm) v33 b).1).sync1 (drL nm)).1).ren (drL nm) nm).1).del (drL nm)).1.obs).map (obR 5)), cel b39 ([Str (drL nm)]) 9, cel b32 ([bv]) 42, own v16 nm.length (nm.map B) 5 1]) (show [Value.map (some mb), I ((((((((((s.del (drL nm)).1).put (drL nm) v33 b).1).sync1 (drL nm)).1).ren (drL nm) nm).1).del (drL nm)).1.left), .bool ((((((((((s.del (drL nm)).1).put (drL nm) v33 b).1).sync1 (drL nm)).1).ren (drL nm) nm).1).del (drL nm)).1.off), I ((((((((((s.del (drL nm)).1).put (drL nm) v33 b).1).sync1 (drL nm)).1).ren (drL nm) nm).1).del (drL nm)).1.made), I ((((((((((s.del (drL nm)).1).put (drL nm) v33 b).1).sync1 (drL nm)).1).ren (drL nm) nm).1).del (drL nm)).1.room)] = [Value.map (some mb), I ((s.pub nm v33 b).1.left), .bool ((s.pub nm v33 b).1.off), I ((s.pub nm v33 b).1.made), I ((s.pub nm v33 b).1.room)] from by rw [show s.pub nm v33 b = ((((((s.del (drL nm)).1.put (drL nm) v33 b).1.sync1 (drL nm)).1.ren (drL nm) nm).1.del (drL nm)).1, ((((s.del (drL nm)).1.put (drL nm) v33 b).1.sync1 (drL nm)).1.ren (drL nm) nm).2) from (pub_d3 hnm (fun q => by omega) (by omega)).trans (pubK_2 (by omega) (by omega))])) ?_
            refine tk_H [cel sb ([Value.map (some mb), I ((s.pub nm v33 b).1.left), .bool ((s.pub nm v33 b).1.off), I ((s.pub nm v33 b).1.made), I ((s.pub nm v33 b).1.room)]) 192, mapS mb (kvO ((s.pub nm v33 b).1.obs)), bag (((((((((((s.del (drL nm)).1).put (drL nm) v33 b).1).sync1 (drL nm)).1).ren (drL nm) nm).1).del (drL nm)).1.obs).map (obR 5)), cel b39 ([Str (drL nm)]) 9, cel b32 ([bv]) 42, own v16 nm.length (nm.map B) 5 1] (congrArg (fun z_ => [cel sb ([Value.map (some mb), I ((s.pub nm v33 b).1.left), .bool ((s.pub nm v33 b).1.off), I ((s.pub nm v33 b).1.made), I ((s.pub nm v33 b).1.room)]) 192, z_, bag (((((((((((s.del (drL nm)).1).put (drL nm) v33 b).1).sync1 (drL nm)).1).ren (drL nm) nm).1).del (drL nm)).1.obs).map (obR 5)), cel b39 ([Str (drL nm)]) 9, cel b32 ([bv]) 42, own v16 nm.length (nm.map B) 5 1]) (show mapS mb (kvO ((((((((((s.del (drL nm)).1).put (drL nm) v33 b).1).sync1 (drL nm)).1).ren (drL nm) nm).1).del (drL nm)).1.obs)) = mapS mb (kvO ((s.pub nm v33 b).1.obs)) from by rw [show s.pub nm v33 b = ((((((s.del (drL nm)).1.put (drL nm) v33 b).1.sync1 (drL nm)).1.ren (drL nm) nm).1.del (drL nm)).1, ((((s.del (drL nm)).1.put (drL nm) v33 b).1.sync1 (drL nm)).1.ren (drL nm) nm).2) from (pub_d3 hnm (fun q => by omega) (by omega)).trans (pubK_2 (by omega) (by omega))])) ?_
            refine tk_H [cel sb ([Value.map (some mb), I ((s.pub nm v33 b).1.left), .bool ((s.pub nm v33 b).1.off), I ((s.pub nm v33 b).1.made), I ((s.pub nm v33 b).1.room)]) 192, mapS mb (kvO ((s.pub nm v33 b).1.obs)), bag (((s.pub nm v33 b).1.obs).map (obR 5)), cel b39 ([Str (drL nm)]) 9, cel b32 ([bv]) 42, own v16 nm.length (nm.map B) 5 1] (congrArg (fun z_ => [cel sb ([Value.map (some mb), I ((s.pub nm v33 b).1.left), .bool ((s.pub nm v33 b).1.off), I ((s.pub nm v33 b).1.made), I ((s.pub nm v33 b).1.room)]) 192, mapS mb (kvO ((s.pub nm v33 b).1.obs)), z_, cel b39 ([Str (drL nm)]) 9, cel b32 ([bv]) 42, own v16 nm.length (nm.map B) 5 1]) (show bag (((((((((((s.del (drL nm)).1).put (drL nm) v33 b).1).sync1 (drL nm)).1).ren (drL nm) nm).1).del (drL nm)).1.obs).map (obR 5)) = bag (((s.pub nm v33 b).1.obs).map (obR 5)) from by rw [show s.pub nm v33 b = ((((((s.del (drL nm)).1.put (drL nm) v33 b).1.sync1 (drL nm)).1.ren (drL nm) nm).1.del (drL nm)).1, ((((s.del (drL nm)).1.put (drL nm) v33 b).1.sync1 (drL nm)).1.ren (drL nm) nm).2) from (pub_d3 hnm (fun q => by omega) (by omega)).trans (pubK_2 (by omega) (by omega))])) ?_
            refine tk_re 6 (I (((((((((s.del (drL nm)).1).put (drL nm) v33 b).1).sync1 (drL nm)).1).ren (drL nm) nm).2 : Nat) : Int)) (I (((s.pub nm v33 b).2 : Nat) : Int)) rfl (by rw [show s.pub nm v33 b = ((((((s.del (drL nm)).1.put (drL nm) v33 b).1.sync1 (drL nm)).1.ren (drL nm) nm).1.del (drL nm)).1, ((((s.del (drL nm)).1.put (drL nm) v33 b).1.sync1 (drL nm)).1.ren (drL nm) nm).2) from (pub_d3 hnm (fun q => by omega) (by omega)).trans (pubK_2 (by omega) (by omega))]) ?_
            exact tk_ret (v33) (trivial) (.inl rfl) (r1 rfl rfl) (.cons_cons _ (.cons_cons _ (.cons_cons _ (List.nil_sublist _))))
          · skip
            refine tk_skip ?_; refine tk_then ?_; refine s_r ?_; refine s_q rfl (y_move rfl) ?_; refine s_q rfl (y_assign rfl) ?_; refine s_n ?_; refine tk_retc ?_; refine tk_H [cel sb ([Value.map (some mb), I ((s.pub nm v33 b).1.left), .bool ((s.pub nm v33 b).1.off), I ((s.pub nm v33 b).1.made), I ((s.pub nm v33 b).1.room)]) 192, mapS mb (kvO ((((((((s.del (drL nm)).1).put (drL nm) v33 b).1).sync1 (drL nm)).1).ren (drL nm) nm).1.obs)), bag (((((((((s.del (drL nm)).1).put (drL nm) v33 b).1).sync1 (drL nm)).1).ren (drL nm) nm).1.obs).map (obR 5)), cel b39 ([Str (drL nm)]) 9, cel b32 ([bv]) 42, own v16 nm.length (nm.map B) 5 1] (congrArg (fun z_ => [cel sb z_ 192, mapS mb (kvO ((((((((s.del (drL nm)).1).put (drL nm) v33 b).1).sync1 (drL nm)).1).ren (drL nm) nm).1.obs)), bag (((((((((s.del (drL nm)).1).put (drL nm) v33 b).1).sync1 (drL nm)).1).ren (drL nm) nm).1.obs).map (obR 5)), cel b39 ([Str (drL nm)]) 9, cel b32 ([bv]) 42, own v16 nm.length (nm.map B) 5 1]) (show [Value.map (some mb), I ((((((((s.del (drL nm)).1).put (drL nm) v33 b).1).sync1 (drL nm)).1).ren (drL nm) nm).1.left), .bool ((((((((s.del (drL nm)).1).put (drL nm) v33 b).1).sync1 (drL nm)).1).ren (drL nm) nm).1.off), I ((((((((s.del (drL nm)).1).put (drL nm) v33 b).1).sync1 (drL nm)).1).ren (drL nm) nm).1.made), I ((((((((s.del (drL nm)).1).put (drL nm) v33 b).1).sync1 (drL nm)).1).ren (drL nm) nm).1.room)] = [Value.map (some mb), I ((s.pub nm v33 b).1.left), .bool ((s.pub nm v33 b).1.off), I ((s.pub nm v33 b).1.made), I ((s.pub nm v33 b).1.room)] from by rw [show s.pub nm v33 b = ((((s.del (drL nm)).1.put (drL nm) v33 b).1.sync1 (drL nm)).1.ren (drL nm) nm) from (pub_d3 hnm (fun q => by omega) (by omega)).trans (pubK_3 (by omega) (by omega))])) ?_
            refine tk_H [cel sb ([Value.map (some mb), I ((s.pub nm v33 b).1.left), .bool ((s.pub nm v33 b).1.off), I ((s.pub nm v33 b).1.made), I ((s.pub nm v33 b).1.room)]) 192, mapS mb (kvO ((s.pub nm v33 b).1.obs)), bag (((((((((s.del (drL nm)).1).put (drL nm) v33 b).1).sync1 (drL nm)).1).ren (drL nm) nm).1.obs).map (obR 5)), cel b39 ([Str (drL nm)]) 9, cel b32 ([bv]) 42, own v16 nm.length (nm.map B) 5 1] (congrArg (fun z_ => [cel sb ([Value.map (some mb), I ((s.pub nm v33 b).1.left), .bool ((s.pub nm v33 b).1.off), I ((s.pub nm v33 b).1.made), I ((s.pub nm v33 b).1.room)]) 192, z_, bag (((((((((s.del (drL nm)).1).put (drL nm) v33 b).1).sync1 (drL nm)).1).ren (drL nm) nm).1.obs).map (obR 5)), cel b39 ([Str (drL nm)]) 9, cel b32 ([bv]) 42, own v16 nm.length (nm.map B) 5 1]) (show mapS mb (kvO ((((((((s.del (drL nm)).1).put (drL nm) v33 b).1).sync1 (drL nm)).1).ren (drL nm) nm).1.obs)) = mapS mb (kvO ((s.pub nm v33 b).1.obs)) from by rw [show s.pub nm v33 b = ((((s.del (drL nm)).1.put (drL nm) v33 b).1.sync1 (drL nm)).1.ren (drL nm) nm) from (pub_d3 hnm (fun q => by omega) (by omega)).trans (pubK_3 (by omega) (by omega))])) ?_
            refine tk_H [cel sb ([Value.map (some mb), I ((s.pub nm v33 b).1.left), .bool ((s.pub nm v33 b).1.off), I ((s.pub nm v33 b).1.made), I ((s.pub nm v33 b).1.room)]) 192, mapS mb (kvO ((s.pub nm v33 b).1.obs)), bag (((s.pub nm v33 b).1.obs).map (obR 5)), cel b39 ([Str (drL nm)]) 9, cel b32 ([bv]) 42, own v16 nm.length (nm.map B) 5 1] (congrArg (fun z_ => [cel sb ([Value.map (some mb), I ((s.pub nm v33 b).1.left), .bool ((s.pub nm v33 b).1.off), I ((s.pub nm v33 b).1.made), I ((s.pub nm v33 b).1.room)]) 192, mapS mb (kvO ((s.pub nm v33 b).1.obs)), z_, cel b39 ([Str (drL nm)]) 9, cel b32 ([bv]) 42, own v16 nm.length (nm.map B) 5 1]) (show bag (((((((((s.del (drL nm)).1).put (drL nm) v33 b).1).sync1 (drL nm)).1).ren (drL nm) nm).1.obs).map (obR 5)) = bag (((s.pub nm v33 b).1.obs).map (obR 5)) from by rw [show s.pub nm v33 b = ((((s.del (drL nm)).1.put (drL nm) v33 b).1.sync1 (drL nm)).1.ren (drL nm) nm) from (pub_d3 hnm (fun q => by omega) (by omega)).trans (pubK_3 (by omega) (by omega))])) ?_
            refine tk_re 6 (I (((((((((s.del (drL nm)).1).put (drL nm) v33 b).1).sync1 (drL nm)).1).ren (drL nm) nm).2 : Nat) : Int)) (I (((s.pub nm v33 b).2 : Nat) : Int)) rfl (by rw [show s.pub nm v33 b = ((((s.del (drL nm)).1.put (drL nm) v33 b).1.sync1 (drL nm)).1.ren (drL nm) nm) from (pub_d3 hnm (fun q => by omega) (by omega)).trans (pubK_3 (by omega) (by omega))]) ?_
            exact tk_ret (v33) (trivial) (.inl rfl) (r1 rfl rfl) (.cons_cons _ (.cons_cons _ (.cons_cons _ (List.nil_sublist _))))
        · skip
          refine tk_skip ?_; refine tk_then ?_; refine tk_seq ?_; refine s_r ?_; refine s_q rfl (y_move rfl) ?_; refine s_q rfl (y_neq rfl rfl) ?_; refine s_n ?_; refine tk_condP rfl (fun ht48 => ?_) (fun ht48 => ?_)
          · skip
            refine tk_region ?_; refine s_q rfl (y_move rfl) ?_; refine s_q rfl (y_move rfl) ?_; refine tk_act rfl ?_; refine a_callv [] _ rfl (by kernel_rfl) rfl (fun w' hw' => del_spec (s := (((((s.del (drL nm)).1).put (drL nm) v33 b).1).sync1 (drL nm)).1) (sb := sb) (mb := mb) (na := drL nm) (by first | exact hok4 | exact hok3)  (St.pre hw')) rfl fun _ _ => ?_; refine s_n ?_; refine s_r ?_; refine s_q rfl (y_move rfl) ?_
            refine s_q rfl (y_assign rfl) ?_; refine s_n ?_; refine tk_retc ?_; refine tk_H [cel sb ([Value.map (some mb), I ((s.pub nm v33 b).1.left), .bool ((s.pub nm v33 b).1.off), I ((s.pub nm v33 b).1.made), I ((s.pub nm v33 b).1.room)]) 192, mapS mb (kvO ((((((((s.del (drL nm)).1).put (drL nm) v33 b).1).sync1 (drL nm)).1).del (drL nm)).1.obs)), bag (((((((((s.del (drL nm)).1).put (drL nm) v33 b).1).sync1 (drL nm)).1).del (drL nm)).1.obs).map (obR 5)), cel b39 ([Str (drL nm)]) 9, cel b32 ([bv]) 42, own v16 nm.length (nm.map B) 5 1] (congrArg (fun z_ => [cel sb z_ 192, mapS mb (kvO ((((((((s.del (drL nm)).1).put (drL nm) v33 b).1).sync1 (drL nm)).1).del (drL nm)).1.obs)), bag (((((((((s.del (drL nm)).1).put (drL nm) v33 b).1).sync1 (drL nm)).1).del (drL nm)).1.obs).map (obR 5)), cel b39 ([Str (drL nm)]) 9, cel b32 ([bv]) 42, own v16 nm.length (nm.map B) 5 1]) (show [Value.map (some mb), I ((((((((s.del (drL nm)).1).put (drL nm) v33 b).1).sync1 (drL nm)).1).del (drL nm)).1.left), .bool ((((((((s.del (drL nm)).1).put (drL nm) v33 b).1).sync1 (drL nm)).1).del (drL nm)).1.off), I ((((((((s.del (drL nm)).1).put (drL nm) v33 b).1).sync1 (drL nm)).1).del (drL nm)).1.made), I ((((((((s.del (drL nm)).1).put (drL nm) v33 b).1).sync1 (drL nm)).1).del (drL nm)).1.room)] = [Value.map (some mb), I ((s.pub nm v33 b).1.left), .bool ((s.pub nm v33 b).1.off), I ((s.pub nm v33 b).1.made), I ((s.pub nm v33 b).1.room)] from by rw [show s.pub nm v33 b = (((((s.del (drL nm)).1.put (drL nm) v33 b).1.sync1 (drL nm)).1.del (drL nm)).1, (((s.del (drL nm)).1.put (drL nm) v33 b).1.sync1 (drL nm)).2) from (pub_d3 hnm (fun q => by omega) (by omega)).trans (pubK_1 (by omega))])) ?_
            refine tk_H [cel sb ([Value.map (some mb), I ((s.pub nm v33 b).1.left), .bool ((s.pub nm v33 b).1.off), I ((s.pub nm v33 b).1.made), I ((s.pub nm v33 b).1.room)]) 192, mapS mb (kvO ((s.pub nm v33 b).1.obs)), bag (((((((((s.del (drL nm)).1).put (drL nm) v33 b).1).sync1 (drL nm)).1).del (drL nm)).1.obs).map (obR 5)), cel b39 ([Str (drL nm)]) 9, cel b32 ([bv]) 42, own v16 nm.length (nm.map B) 5 1] (congrArg (fun z_ => [cel sb ([Value.map (some mb), I ((s.pub nm v33 b).1.left), .bool ((s.pub nm v33 b).1.off), I ((s.pub nm v33 b).1.made), I ((s.pub nm v33 b).1.room)]) 192, z_, bag (((((((((s.del (drL nm)).1).put (drL nm) v33 b).1).sync1 (drL nm)).1).del (drL nm)).1.obs).map (obR 5)), cel b39 ([Str (drL nm)]) 9, cel b32 ([bv]) 42, own v16 nm.length (nm.map B) 5 1]) (show mapS mb (kvO ((((((((s.del (drL nm)).1).put (drL nm) v33 b).1).sync1 (drL nm)).1).del (drL nm)).1.obs)) = mapS mb (kvO ((s.pub nm v33 b).1.obs)) from by rw [show s.pub nm v33 b = (((((s.del (drL nm)).1.put (drL nm) v33 b).1.sync1 (drL nm)).1.del (drL nm)).1, (((s.del (drL nm)).1.put (drL nm) v33 b).1.sync1 (drL nm)).2) from (pub_d3 hnm (fun q => by omega) (by omega)).trans (pubK_1 (by omega))])) ?_
            refine tk_H [cel sb ([Value.map (some mb), I ((s.pub nm v33 b).1.left), .bool ((s.pub nm v33 b).1.off), I ((s.pub nm v33 b).1.made), I ((s.pub nm v33 b).1.room)]) 192, mapS mb (kvO ((s.pub nm v33 b).1.obs)), bag (((s.pub nm v33 b).1.obs).map (obR 5)), cel b39 ([Str (drL nm)]) 9, cel b32 ([bv]) 42, own v16 nm.length (nm.map B) 5 1] (congrArg (fun z_ => [cel sb ([Value.map (some mb), I ((s.pub nm v33 b).1.left), .bool ((s.pub nm v33 b).1.off), I ((s.pub nm v33 b).1.made), I ((s.pub nm v33 b).1.room)]) 192, mapS mb (kvO ((s.pub nm v33 b).1.obs)), z_, cel b39 ([Str (drL nm)]) 9, cel b32 ([bv]) 42, own v16 nm.length (nm.map B) 5 1]) (show bag (((((((((s.del (drL nm)).1).put (drL nm) v33 b).1).sync1 (drL nm)).1).del (drL nm)).1.obs).map (obR 5)) = bag (((s.pub nm v33 b).1.obs).map (obR 5)) from by rw [show s.pub nm v33 b = (((((s.del (drL nm)).1.put (drL nm) v33 b).1.sync1 (drL nm)).1.del (drL nm)).1, (((s.del (drL nm)).1.put (drL nm) v33 b).1.sync1 (drL nm)).2) from (pub_d3 hnm (fun q => by omega) (by omega)).trans (pubK_1 (by omega))])) ?_
            refine tk_re 6 (I (((((((s.del (drL nm)).1).put (drL nm) v33 b).1).sync1 (drL nm)).2 : Nat) : Int)) (I (((s.pub nm v33 b).2 : Nat) : Int)) rfl (by rw [show s.pub nm v33 b = (((((s.del (drL nm)).1.put (drL nm) v33 b).1.sync1 (drL nm)).1.del (drL nm)).1, (((s.del (drL nm)).1.put (drL nm) v33 b).1.sync1 (drL nm)).2) from (pub_d3 hnm (fun q => by omega) (by omega)).trans (pubK_1 (by omega))]) ?_
            exact tk_ret (v33) (trivial) (.inl rfl) (r1 rfl rfl) (.cons_cons _ (.cons_cons _ (.cons_cons _ (List.nil_sublist _))))
          · skip
            refine tk_skip ?_; refine tk_then ?_; refine s_r ?_; refine s_q rfl (y_move rfl) ?_; refine s_q rfl (y_assign rfl) ?_; refine s_n ?_; refine tk_retc ?_; refine tk_H [cel sb ([Value.map (some mb), I ((s.pub nm v33 b).1.left), .bool ((s.pub nm v33 b).1.off), I ((s.pub nm v33 b).1.made), I ((s.pub nm v33 b).1.room)]) 192, mapS mb (kvO ((((((s.del (drL nm)).1).put (drL nm) v33 b).1).sync1 (drL nm)).1.obs)), bag (((((((s.del (drL nm)).1).put (drL nm) v33 b).1).sync1 (drL nm)).1.obs).map (obR 5)), cel b39 ([Str (drL nm)]) 9, cel b32 ([bv]) 42, own v16 nm.length (nm.map B) 5 1] (congrArg (fun z_ => [cel sb z_ 192, mapS mb (kvO ((((((s.del (drL nm)).1).put (drL nm) v33 b).1).sync1 (drL nm)).1.obs)), bag (((((((s.del (drL nm)).1).put (drL nm) v33 b).1).sync1 (drL nm)).1.obs).map (obR 5)), cel b39 ([Str (drL nm)]) 9, cel b32 ([bv]) 42, own v16 nm.length (nm.map B) 5 1]) (show [Value.map (some mb), I ((((((s.del (drL nm)).1).put (drL nm) v33 b).1).sync1 (drL nm)).1.left), .bool ((((((s.del (drL nm)).1).put (drL nm) v33 b).1).sync1 (drL nm)).1.off), I ((((((s.del (drL nm)).1).put (drL nm) v33 b).1).sync1 (drL nm)).1.made), I ((((((s.del (drL nm)).1).put (drL nm) v33 b).1).sync1 (drL nm)).1.room)] = [Value.map (some mb), I ((s.pub nm v33 b).1.left), .bool ((s.pub nm v33 b).1.off), I ((s.pub nm v33 b).1.made), I ((s.pub nm v33 b).1.room)] from by rw [show s.pub nm v33 b = (((s.del (drL nm)).1.put (drL nm) v33 b).1.sync1 (drL nm)) from (pub_d3 hnm (fun q => by omega) (by omega)).trans (absurd (show ((((s.del (drL nm)).1.put (drL nm) v33 b).1.sync1 (drL nm)).2) = 0 by omega) (by omega))])) ?_
            refine tk_H [cel sb ([Value.map (some mb), I ((s.pub nm v33 b).1.left), .bool ((s.pub nm v33 b).1.off), I ((s.pub nm v33 b).1.made), I ((s.pub nm v33 b).1.room)]) 192, mapS mb (kvO ((s.pub nm v33 b).1.obs)), bag (((((((s.del (drL nm)).1).put (drL nm) v33 b).1).sync1 (drL nm)).1.obs).map (obR 5)), cel b39 ([Str (drL nm)]) 9, cel b32 ([bv]) 42, own v16 nm.length (nm.map B) 5 1] (congrArg (fun z_ => [cel sb ([Value.map (some mb), I ((s.pub nm v33 b).1.left), .bool ((s.pub nm v33 b).1.off), I ((s.pub nm v33 b).1.made), I ((s.pub nm v33 b).1.room)]) 192, z_, bag (((((((s.del (drL nm)).1).put (drL nm) v33 b).1).sync1 (drL nm)).1.obs).map (obR 5)), cel b39 ([Str (drL nm)]) 9, cel b32 ([bv]) 42, own v16 nm.length (nm.map B) 5 1]) (show mapS mb (kvO ((((((s.del (drL nm)).1).put (drL nm) v33 b).1).sync1 (drL nm)).1.obs)) = mapS mb (kvO ((s.pub nm v33 b).1.obs)) from by rw [show s.pub nm v33 b = (((s.del (drL nm)).1.put (drL nm) v33 b).1.sync1 (drL nm)) from (pub_d3 hnm (fun q => by omega) (by omega)).trans (absurd (show ((((s.del (drL nm)).1.put (drL nm) v33 b).1.sync1 (drL nm)).2) = 0 by omega) (by omega))])) ?_
            refine tk_H [cel sb ([Value.map (some mb), I ((s.pub nm v33 b).1.left), .bool ((s.pub nm v33 b).1.off), I ((s.pub nm v33 b).1.made), I ((s.pub nm v33 b).1.room)]) 192, mapS mb (kvO ((s.pub nm v33 b).1.obs)), bag (((s.pub nm v33 b).1.obs).map (obR 5)), cel b39 ([Str (drL nm)]) 9, cel b32 ([bv]) 42, own v16 nm.length (nm.map B) 5 1] (congrArg (fun z_ => [cel sb ([Value.map (some mb), I ((s.pub nm v33 b).1.left), .bool ((s.pub nm v33 b).1.off), I ((s.pub nm v33 b).1.made), I ((s.pub nm v33 b).1.room)]) 192, mapS mb (kvO ((s.pub nm v33 b).1.obs)), z_, cel b39 ([Str (drL nm)]) 9, cel b32 ([bv]) 42, own v16 nm.length (nm.map B) 5 1]) (show bag (((((((s.del (drL nm)).1).put (drL nm) v33 b).1).sync1 (drL nm)).1.obs).map (obR 5)) = bag (((s.pub nm v33 b).1.obs).map (obR 5)) from by rw [show s.pub nm v33 b = (((s.del (drL nm)).1.put (drL nm) v33 b).1.sync1 (drL nm)) from (pub_d3 hnm (fun q => by omega) (by omega)).trans (absurd (show ((((s.del (drL nm)).1.put (drL nm) v33 b).1.sync1 (drL nm)).2) = 0 by omega) (by omega))])) ?_
            refine tk_re 6 (I (((((((s.del (drL nm)).1).put (drL nm) v33 b).1).sync1 (drL nm)).2 : Nat) : Int)) (I (((s.pub nm v33 b).2 : Nat) : Int)) rfl (by rw [show s.pub nm v33 b = (((s.del (drL nm)).1.put (drL nm) v33 b).1.sync1 (drL nm)) from (pub_d3 hnm (fun q => by omega) (by omega)).trans (absurd (show ((((s.del (drL nm)).1.put (drL nm) v33 b).1.sync1 (drL nm)).2) = 0 by omega) (by omega))]) ?_
            exact tk_ret (v33) (trivial) (.inl rfl) (r1 rfl rfl) (.cons_cons _ (.cons_cons _ (.cons_cons _ (List.nil_sublist _))))
end Go.Proofs.YtkkjfojgjmglpaaGreatDoor
set_option linter.unusedSimpArgs false
set_option linter.unusedVariables false
namespace Go.Proofs.YtkkjfojgjmglpaaGreatDoor
open Go Go.RowKit Go.MapKept
end Go.Proofs.YtkkjfojgjmglpaaGreatDoor
namespace Go.Proofs.YtkkjfojgjmglpaaGreatDoor
open Go Go.RowKit Go.Maps Go.Sort Go.Shelf
set_option maxRecDepth 100000
theorem Fo_below {E : Nat → Prop} {w w' : World} (h : Go.RowKit.Below w.heap.size w w') : Fo E w w' := ⟨h.os, h.tape, h.output, h.size, fun k hk _ => h.block k hk⟩
end Go.Proofs.YtkkjfojgjmglpaaGreatDoor
namespace Go.Proofs.YtkkjfojgjmglpaaGreatDoor
open Go Go.RowKit Go.Shelf
set_option maxRecDepth 100000
def laysItoa_ren : Go.Shelf.Ren := ⟨fun | 171 => 120 | 243 => 160 | 246 => 192 | 283 => 219 | 284 => 220 | 285 => 221 | 286 => 222 | 129 => 218 | 317 => 239 | 318 => 240 | 319 => 241 | 320 => 242 | 337 => 248 | 338 => 249 | n => n, fun | 3 => 3 | 9 => 9 | 2 => 2 | 4 => 4 | 171 => 332 | 0 => 0 | 53 => 105 | 37 => 42 | 5 => 5 | 173 => 334 | 212 => 352 | 51 => 210 | 20 => 20 | 213 => 353 | 46 => 209 | 232 => 27 | 233 => 212 | n => n, fun | 17 => 2 | 18 => 6 | 19 => 7 | n => n⟩
theorem laysItoa : Go.Proofs.Lays.n171 Tryz.prog laysItoa_ren := {
  mixed := by kernel_rfl
  f129 := Tryz.func218.trans (congrArg some (by kernel_rfl))
  f171 := Tryz.func120.trans (congrArg some (by kernel_rfl))
  f243 := Tryz.func160.trans (congrArg some (by kernel_rfl))
  f246 := Tryz.func192.trans (congrArg some (by kernel_rfl))
  f283 := Tryz.func219.trans (congrArg some (by kernel_rfl))
  f284 := Tryz.func220.trans (congrArg some (by kernel_rfl))
  f285 := Tryz.func221.trans (congrArg some (by kernel_rfl))
  f286 := Tryz.func222.trans (congrArg some (by kernel_rfl))
  f317 := Tryz.func239.trans (congrArg some (by kernel_rfl))
  f318 := Tryz.func240.trans (congrArg some (by kernel_rfl))
  f319 := Tryz.func241.trans (congrArg some (by kernel_rfl))
  f320 := Tryz.func242.trans (congrArg some (by kernel_rfl))
  f337 := Tryz.func248.trans (congrArg some (by kernel_rfl))
  f338 := Tryz.func249.trans (congrArg some (by kernel_rfl))
  t0 := Tryz.underlying0
  a0 := Tryz.isAgg0
  z0 := Tryz.sizeOf0
  v0 := Tryz.zeroValue0
  t2 := Tryz.underlying2
  a2 := Tryz.isAgg2
  z2 := Tryz.sizeOf2
  v2 := Tryz.zeroValue2
  t3 := Tryz.underlying3
  a3 := Tryz.isAgg3
  z3 := Tryz.sizeOf3
  v3 := Tryz.zeroValue3
  t4 := Tryz.underlying4
  a4 := Tryz.isAgg4
  z4 := Tryz.sizeOf4
  v4 := Tryz.zeroValue4
  t5 := Tryz.underlying5
  a5 := Tryz.isAgg5
  z5 := Tryz.sizeOf5
  v5 := Tryz.zeroValue5
  t9 := Tryz.underlying9
  a9 := Tryz.isAgg9
  z9 := Tryz.sizeOf9
  v9 := Tryz.zeroValue9
  t20 := Tryz.underlying20
  a20 := Tryz.isAgg20
  z20 := Tryz.sizeOf20
  v20 := Tryz.zeroValue20
  t37 := Tryz.underlying42
  a37 := Tryz.isAgg42
  z37 := Tryz.sizeOf42
  v37 := Tryz.zeroValue42
  t46 := Tryz.underlying209
  a46 := Tryz.isAgg209
  z46 := Tryz.sizeOf209
  v46 := Tryz.zeroValue209
  t51 := Tryz.underlying210
  a51 := Tryz.isAgg210
  z51 := Tryz.sizeOf210
  v51 := Tryz.zeroValue210
  t53 := Tryz.underlying105
  a53 := Tryz.isAgg105
  z53 := Tryz.sizeOf105
  v53 := Tryz.zeroValue105
  t171 := Tryz.underlying332
  a171 := Tryz.isAgg332
  z171 := Tryz.sizeOf332
  v171 := Tryz.zeroValue332
  t173 := Tryz.underlying334
  a173 := Tryz.isAgg334
  z173 := Tryz.sizeOf334
  v173 := Tryz.zeroValue334
  t212 := Tryz.underlying352
  a212 := Tryz.isAgg352
  z212 := Tryz.sizeOf352
  v212 := Tryz.zeroValue352
  t213 := Tryz.underlying353
  a213 := Tryz.isAgg353
  z213 := Tryz.sizeOf353
  t232 := Tryz.underlying27
  a232 := Tryz.isAgg27
  z232 := Tryz.sizeOf27
  v232 := Tryz.zeroValue27
  t233 := Tryz.underlying212
  a233 := Tryz.isAgg212
  z233 := Tryz.sizeOf212
  v233 := Tryz.zeroValue212
  g17 := by kernel_rfl
  g18 := by kernel_rfl
  g19 := by kernel_rfl }

def laysRep_ren : Go.Shelf.Ren := ⟨fun | 105 => 121 | 212 => 161 | 99 => 96 | 165 => 162 | 166 => 163 | 170 => 164 | 169 => 165 | 263 => 193 | 264 => 194 | 206 => 145 | 240 => 195 | 241 => 196 | 276 => 223 | 277 => 224 | n => n, fun | 9 => 9 | 3 => 3 | 4 => 4 | 20 => 20 | 0 => 0 | 46 => 209 | 109 => 272 | 5 => 5 | 72 => 276 | 76 => 279 | 51 => 210 | 146 => 298 | 53 => 105 | 148 => 300 | 70 => 274 | 37 => 42 | 75 => 278 | 127 => 302 | 164 => 336 | 80 => 259 | n => n, fun | n => n⟩
theorem laysRep : Go.Proofs.Lays.n105 Tryz.prog laysRep_ren := {
  mixed := by kernel_rfl
  f99 := Tryz.func96.trans (congrArg some (by kernel_rfl))
  f105 := Tryz.func121.trans (congrArg some (by kernel_rfl))
  f165 := Tryz.func162.trans (congrArg some (by kernel_rfl))
  f166 := Tryz.func163.trans (congrArg some (by kernel_rfl))
  f169 := Tryz.func165.trans (congrArg some (by kernel_rfl))
  f170 := Tryz.func164.trans (congrArg some (by kernel_rfl))
  f206 := Tryz.func145.trans (congrArg some (by kernel_rfl))
  f212 := Tryz.func161.trans (congrArg some (by kernel_rfl))
  f240 := Tryz.func195.trans (congrArg some (by kernel_rfl))
  f241 := Tryz.func196.trans (congrArg some (by kernel_rfl))
  f263 := Tryz.func193.trans (congrArg some (by kernel_rfl))
  f264 := Tryz.func194.trans (congrArg some (by kernel_rfl))
  f276 := Tryz.func223.trans (congrArg some (by kernel_rfl))
  f277 := Tryz.func224.trans (congrArg some (by kernel_rfl))
  t0 := Tryz.underlying0
  a0 := Tryz.isAgg0
  z0 := Tryz.sizeOf0
  v0 := Tryz.zeroValue0
  t3 := Tryz.underlying3
  a3 := Tryz.isAgg3
  z3 := Tryz.sizeOf3
  v3 := Tryz.zeroValue3
  t4 := Tryz.underlying4
  a4 := Tryz.isAgg4
  z4 := Tryz.sizeOf4
  v4 := Tryz.zeroValue4
  t5 := Tryz.underlying5
  a5 := Tryz.isAgg5
  z5 := Tryz.sizeOf5
  v5 := Tryz.zeroValue5
  t9 := Tryz.underlying9
  a9 := Tryz.isAgg9
  z9 := Tryz.sizeOf9
  v9 := Tryz.zeroValue9
  t20 := Tryz.underlying20
  a20 := Tryz.isAgg20
  z20 := Tryz.sizeOf20
  v20 := Tryz.zeroValue20
  t37 := Tryz.underlying42
  a37 := Tryz.isAgg42
  z37 := Tryz.sizeOf42
  v37 := Tryz.zeroValue42
  t46 := Tryz.underlying209
  a46 := Tryz.isAgg209
  z46 := Tryz.sizeOf209
  v46 := Tryz.zeroValue209
  t51 := Tryz.underlying210
  a51 := Tryz.isAgg210
  z51 := Tryz.sizeOf210
  v51 := Tryz.zeroValue210
  t53 := Tryz.underlying105
  a53 := Tryz.isAgg105
  z53 := Tryz.sizeOf105
  v53 := Tryz.zeroValue105
  t70 := Tryz.underlying274
  a70 := Tryz.isAgg274
  z70 := Tryz.sizeOf274
  v70 := Tryz.zeroValue274
  t72 := Tryz.underlying276
  a72 := Tryz.isAgg276
  z72 := Tryz.sizeOf276
  v72 := Tryz.zeroValue276
  t75 := Tryz.underlying278
  a75 := Tryz.isAgg278
  z75 := Tryz.sizeOf278
  v75 := Tryz.zeroValue278
  t76 := Tryz.underlying279
  a76 := Tryz.isAgg279
  z76 := Tryz.sizeOf279
  v76 := Tryz.zeroValue279
  t109 := Tryz.underlying272
  a109 := Tryz.isAgg272
  z109 := Tryz.sizeOf272
  v109 := Tryz.zeroValue272
  t127 := Tryz.underlying302
  a127 := Tryz.isAgg302
  z127 := Tryz.sizeOf302
  v127 := Tryz.zeroValue302
  t146 := Tryz.underlying298
  a146 := Tryz.isAgg298
  z146 := Tryz.sizeOf298
  v146 := Tryz.zeroValue298
  t148 := Tryz.underlying300
  a148 := Tryz.isAgg300
  z148 := Tryz.sizeOf300
  v148 := Tryz.zeroValue300
  t164 := Tryz.underlying336
  a164 := Tryz.isAgg336
  z164 := Tryz.sizeOf336
  v164 := Tryz.zeroValue336 }

theorem bextRep : Builder.Extra Tryz.prog laysRep_ren := {
  sizeBuilder := by kernel_rfl
  liesBuilder := by kernel_rfl
  t5 := Tryz.underlying5
  a5 := Tryz.isAgg5
  z5 := Tryz.sizeOf5
  v5 := Tryz.zeroValue5
  infoByte := by kernel_rfl
  cellsByte := by kernel_rfl
  sizeByte := by kernel_rfl
  neB5 := by decide }
theorem itoa_spec {i : Nat} {w : World} (hi : i < 100) : Spec Tryz.prog 120 [I ((i : Nat) : Int)] w [] (fun _ : Unit => True) (fun _ => Str (Lib.decDigits i)) (fun _ => []) := by
  refine Calls.mono (Any.strconv_Itoa_small laysItoa i hi w) ?_
  rintro e w' ⟨rfl, rfl⟩
  exact ⟨(), trivial, rfl, Fo.refl _ _, trivial, trivial, fun _ h => h.elim⟩
theorem repeat_spec {l : List UInt8} {n : Nat} {w : World} (hn : n < 1000000 ∧ l.length < 1000000) : Spec Tryz.prog 121 [Str l, I ((n : Nat) : Int)] w [] (fun _ : Unit => True) (fun _ => Str (Lib.repeatL l n)) (fun _ => []) := by
  have hm : l.length * n ≤ 1000000 * 1000000 := Nat.mul_le_mul (by omega) (by omega)
  have h := Any.strings_Repeat laysRep bextRep ⟨l.toArray⟩ n w (by omega) (by show l.toArray.size * n ≤ 140737488355328; rw [List.size_toArray]; omega)
  refine Calls.mono h ?_
  rintro e w' ⟨rfl, hb⟩
  exact ⟨(), trivial, rfl, Fo_below hb, trivial, trivial, fun _ h => h.elim⟩
end Go.Proofs.YtkkjfojgjmglpaaGreatDoor
set_option linter.unusedSimpArgs false
set_option linter.unusedVariables false
namespace Go.Proofs.YtkkjfojgjmglpaaGreatDoor
open Go Go.RowKit
set_option maxRecDepth 100000
theorem itoa2_spec {i : Nat} {w : World} (hi : i < 100) : Spec Tryz.prog 120 [I ((i : Nat) : Int)] w [] (fun _ : Unit => True) (fun _ => Str (dec2 i)) (fun _ => []) := by rw [← dec2_eq hi]; exact itoa_spec hi
theorem lname_spec {n : Nat} {w : World} (hn : n < 100) : Spec Tryz.prog 81 [I ((n : Nat) : Int)] w [] (fun _ : Unit => True) (fun _ => Str (nameR n)) (fun _ => []) := by
  refine spec_of (n := 14) Tryz.func81 rfl rfl trivial trivial rfl ?_
  have hd2 := dec2_len (n := n)
  refine s_r ?_; refine s_q rfl (y_assign rfl) ?_; refine s_n ?_; refine s_r ?_; refine s_q rfl (y_move rfl) ?_; refine tk_act rfl ?_; refine a_callv [] _ rfl (by kernel_rfl) rfl (fun w' hw' => itoa2_spec (i := n) lenP) rfl fun _ _ => ?_; refine s_q rfl (y_assign rfl) ?_; refine s_n ?_; refine s_r ?_; refine s_q rfl (y_move rfl) ?_; refine s_q rfl (y_lenStr (l := dec2 n) rfl rfl) ?_; refine s_q rfl (y_subN (a := 8) (b := (dec2 n).length) rfl rfl (by omega)) ?_
  refine s_q rfl (y_maxN (a := 8 - ((dec2 n).length)) (b := 0) rfl rfl) ?_; refine tk_act rfl ?_; refine a_callv [] _ rfl (by kernel_rfl) rfl (fun w' hw' => repeat_spec (l := [48]) (n := max (8 - ((dec2 n).length)) 0) ⟨lenP, lenP⟩) rfl fun _ _ => ?_
  have hrl : (Lib.repeatL [48] (max (8 - (dec2 n).length) 0)).length ≤ 8 := by rw [Lib.repeatL_length]; simp
  refine s_q rfl (y_catT (l := [115, 47]) (m := Lib.repeatL [48] (max (8 - ((dec2 n).length)) 0)) rfl rfl lenP) ?_; refine s_q rfl (y_move rfl) ?_; refine s_q rfl (y_catT (l := [115, 47] ++ (Lib.repeatL [48] (max (8 - ((dec2 n).length)) 0))) (m := dec2 n) rfl rfl lenP) ?_; refine s_q rfl (y_assign rfl) ?_; refine s_n ?_; refine tk_retc ?_
  exact tk_ret (()) (trivial) (.inl rfl) (r1 rfl rfl) (List.Sublist.refl _)
theorem rightR_spec {r : Rec} {w : World} (hnt : r.s.note.length < 9223372036854775808) : Spec Tryz.prog 129 [.agg ([I (r.kind), I (r.s.seq), I (r.s.time), Str r.s.note] ++ (r.s.root.map B)).toArray] w [] (fun _ : Unit => True) (fun _ => .bool (decide (rightR r))) (fun _ => []) := by
  refine spec_of (n := 35) Tryz.func129 rfl rfl trivial trivial rfl ?_
  have hrh := r.s.h
  refine s_r ?_; refine tk_act rfl ?_; refine a_boxL (cs := [I (r.kind), I (r.s.seq), I (r.s.time), Str r.s.note] ++ (r.s.root.map B)) rfl rfl fun b1 => ?_; refine s_q rfl (y_assign rfl) ?_; refine s_n ?_; refine tk_seq ?_; refine s_r ?_; refine s_q rfl (y_fldN (o := 0) 1 rfl (by kernel_rfl)) ?_; refine s_q rfl (y_fldN (o := 1) 1 rfl (by kernel_rfl)) ?_; refine s_q rfl (y_load rfl rfl (hc (o := 2) (.head _) (rfl))) ?_
  refine tk_qs rfl rfl rfl (y_lss rfl rfl) (fun hs1_3 => ?_) (fun hs1_3 => ?_)
  · skip
    refine s_q rfl (y_move rfl) ?_; refine tk_gno rfl rfl rfl ?_; refine tk_gno rfl rfl rfl ?_; refine tk_gno rfl rfl rfl ?_; refine tk_gno rfl rfl rfl ?_; refine s_q rfl (y_pick1 rfl rfl) ?_; refine s_n ?_; refine tk_cond1 rfl ?_; refine s_r ?_; refine s_q rfl (y_assign rfl) ?_; refine s_n ?_; refine tk_retc ?_; refine tk_then_ret ?_; refine tk_re 2 (.bool false) (.bool (decide (rightR r))) rfl ((bool_f (rightR_no (.inl (by omega)))).symm) ?_
    exact tk_ret (()) (trivial) (.inl rfl) (r1 rfl rfl) (List.nil_sublist _)
  · skip
    refine s_q rfl (y_move rfl) ?_; refine s_g rfl (y_fldN (o := 0) 1 rfl (by kernel_rfl)) ?_; refine s_g rfl (y_fldN (o := 1) 1 rfl (by kernel_rfl)) ?_; refine s_g rfl (y_load rfl rfl (hc (o := 2) (.head _) (rfl))) ?_; refine s_g rfl (y_gtr rfl rfl) ?_; refine s_q rfl (y_pick0 rfl rfl) ?_; refine s_n ?_; refine tk_condP rfl (fun ht12 => ?_) (fun ht12 => ?_)
    · skip
      refine s_r ?_; refine s_q rfl (y_assign rfl) ?_; refine s_n ?_; refine tk_retc ?_; refine tk_then_ret ?_; refine tk_re 2 (.bool false) (.bool (decide (rightR r))) rfl ((bool_f (rightR_no (.inr (.inl (by omega))))).symm) ?_
      exact tk_ret (()) (trivial) (.inl rfl) (r1 rfl rfl) (List.nil_sublist _)
    · skip
      refine tk_skip ?_; refine tk_then ?_; refine tk_seq ?_; refine s_r ?_; refine s_q rfl (y_fld0 (o := 0) rfl (by kernel_rfl)) ?_; refine s_q rfl (y_load rfl rfl (hc (o := 0) (.head _) (rfl))) ?_; refine s_n ?_; refine tk_block ?_; refine s_r ?_; refine s_q rfl (y_eql rfl rfl) ?_; refine s_q rfl (y_assign rfl) ?_; refine s_n ?_; refine tk_condP rfl (fun ht15 => ?_) (fun ht15 => ?_)
      · skip
        refine s_r ?_; refine s_q rfl (y_fldN (o := 0) 1 rfl (by kernel_rfl)) ?_; refine s_q rfl (y_fldN (o := 1) 2 rfl (by kernel_rfl)) ?_; refine s_q rfl (y_load rfl rfl (hc (o := 3) (.head _) (rfl))) ?_; refine s_q rfl (y_lenStr (l := r.s.note) rfl rfl) ?_; refine s_q rfl (y_leq rfl rfl) ?_; refine s_q rfl (y_assign rfl) ?_; refine s_n ?_; refine tk_retc ?_; refine tk_in_ret ?_; refine tk_then_ret ?_
        refine tk_re 2 (.bool (decide (((r.s.note.length : Nat) : Int) ≤ (1000 : Int)))) (.bool (decide (rightR r))) rfl (congrArg Value.bool (by rw [decide_eq_decide]; exact ⟨fun h => (right_1 (by omega) (by omega) ht15).1 (by omega), fun h => by have := (right_1 (by omega) (by omega) ht15).2 h; omega⟩)) ?_
        exact tk_ret (()) (trivial) (.inl rfl) (r1 rfl rfl) (List.nil_sublist _)
      · skip
        refine s_r ?_; refine s_q rfl (y_eql rfl rfl) ?_; refine s_q rfl (y_assign rfl) ?_; refine s_n ?_; refine tk_condP rfl (fun ht22 => ?_) (fun ht22 => ?_)
        · skip
          refine s_r ?_; refine s_q rfl (y_fldN (o := 0) 1 rfl (by kernel_rfl)) ?_; refine s_q rfl (y_fldN (o := 1) 2 rfl (by kernel_rfl)) ?_; refine s_q rfl (y_load rfl rfl (hc (o := 3) (.head _) (rfl))) ?_; refine tk_qs rfl rfl rfl (y_strEq (l := r.s.note) (m := []) rfl rfl) (fun hs7_3 => ?_) (fun hs7_3 => ?_)
          · skip
            refine s_q rfl (y_move rfl) ?_; refine s_g rfl (y_fldN (o := 0) 1 rfl (by kernel_rfl)) ?_; refine s_g rfl (y_fldN (o := 1) 3 rfl (by kernel_rfl)) ?_; refine s_g rfl (y_loadA (vs := r.s.root.map B) 32 rfl (by kernel_rfl) lenP (hseg (pre := [I (r.kind), I (r.s.seq), I (r.s.time), Str r.s.note]) (post := ([] : List Value)) (.head _) lenP (by simp))) ?_; refine s_g rfl (y_build (v := .agg ((List.replicate 32 0 : List UInt8).map B).toArray) (vs := []) rfl (fun _ => by kernel_rfl)) ?_
            refine s_g rfl (y_agEq (l := r.s.root) (m := (List.replicate 32 0 : List UInt8)) rfl rfl Tryz.underlying59 Tryz.underlying5 (by kernel_rfl) (by kernel_rfl) ⟨r.s.h, (by rfl)⟩) ?_; refine s_q rfl (y_pick1 rfl rfl) ?_; refine s_q rfl (y_assign rfl) ?_; refine s_n ?_; refine tk_retc ?_; refine tk_in_ret ?_; refine tk_then_ret ?_; refine tk_re 2 (.bool (decide (r.s.root = (List.replicate 32 0 : List UInt8)))) (.bool (decide (rightR r))) rfl (congrArg Value.bool (by rw [decide_eq_decide]; exact right_2 (by omega) (by omega) ht22 hs7_3)) ?_
            exact tk_ret (()) (trivial) (.inl rfl) (r1 rfl rfl) (List.nil_sublist _)
          · skip
            refine s_q rfl (y_move rfl) ?_; refine tk_gno rfl rfl rfl ?_; refine tk_gno rfl rfl rfl ?_; refine tk_gno rfl rfl rfl ?_; refine tk_gno rfl rfl rfl ?_; refine tk_gno rfl rfl rfl ?_; refine s_q rfl (y_pick0 rfl rfl) ?_; refine s_q rfl (y_assign rfl) ?_; refine s_n ?_; refine tk_retc ?_; refine tk_in_ret ?_; refine tk_then_ret ?_; refine tk_re 2 (.bool false) (.bool (decide (rightR r))) rfl ((bool_f (rightR_no (.inr (.inr (.inr ⟨ht15, hs7_3⟩))))).symm) ?_
            exact tk_ret (()) (trivial) (.inl rfl) (r1 rfl rfl) (List.nil_sublist _)
        · skip
          refine tk_skip ?_; refine tk_in_normal ?_; refine tk_then ?_; refine s_r ?_; refine s_q rfl (y_assign rfl) ?_; refine s_n ?_; refine tk_retc ?_; refine tk_re 2 (.bool false) (.bool (decide (rightR r))) rfl ((bool_f (rightR_no (.inr (.inr (.inl ⟨ht15, ht22⟩))))).symm) ?_
          exact tk_ret (()) (trivial) (.inl rfl) (r1 rfl rfl) (List.nil_sublist _)
theorem snaps_spec {hk mk nk la : List UInt8} {lb tb sb cb : Nat} {rv : Value} {rs : List Rec} {w : World} (h3 : hk.length = 32 ∧ mk.length = 32 ∧ nk.length = 32) (hla : la.length = 32) (hrl : rs.length < 1000000) (hh : Pre w [cel lb (hk.map B ++ (mk.map B ++ (nk.map B ++ ([Value.pointer (some ⟨tb, 0, none⟩), .pointer (some ⟨sb, 0, none⟩), .pointer (some ⟨cb, 0, none⟩), rv] ++ (la.map B))))) 167, own rv rs.length (rs.flatMap rcC) 63 36]) : Spec Tryz.prog 74 [.pointer (some ⟨lb, 0, none⟩)] w [cel lb (hk.map B ++ (mk.map B ++ (nk.map B ++ ([Value.pointer (some ⟨tb, 0, none⟩), .pointer (some ⟨sb, 0, none⟩), .pointer (some ⟨cb, 0, none⟩), rv] ++ (la.map B))))) 167, own rv rs.length (rs.flatMap rcC) 63 36] (fun _ : Value => True) (fun x => x) (fun x => [ownA snC 35 x (foldR rs) 61, cel lb (hk.map B ++ (mk.map B ++ (nk.map B ++ ([Value.pointer (some ⟨tb, 0, none⟩), .pointer (some ⟨sb, 0, none⟩), .pointer (some ⟨cb, 0, none⟩), rv] ++ (la.map B))))) 167, own rv rs.length (rs.flatMap rcC) 63 36]) := by
  refine spec_of (n := 10) Tryz.func74 rfl rfl hh.1 hh.2 rfl ?_
  obtain ⟨hk32, mk32, nk32⟩ := h3
  refine tk_ownA (.tail _ (.head _)) fun hfr => ?_; refine s_r ?_; refine s_q rfl (y_assign rfl) ?_; refine s_n ?_; refine tk_seq ?_; refine s_r ?_; refine s_q rfl (y_move rfl) ?_; refine s_q rfl (y_pnil rfl rfl rfl) ?_; refine s_n ?_; refine tk_cond0 rfl ?_; refine tk_skip ?_; refine tk_then ?_; refine s_r ?_; refine s_q rfl (y_move rfl) ?_; refine s_q rfl (y_nilCheck rfl) ?_; refine s_q rfl (y_fldN (o := 0) 99 rfl (by kernel_rfl)) ?_
  refine s_q rfl (y_load rfl rfl (hc (o := 99) (.head _) (gA (k := 32) (i := 67) (by rw [List.length_map]; exact hk32) (by omega) (gA (k := 32) (i := 35) (by rw [List.length_map]; exact mk32) (by omega) (gA (k := 32) (i := 3) (by rw [List.length_map]; exact nk32) (by omega) (rfl)))))) ?_; refine tk_act rfl ?_; refine a_callv [] _ rfl (by kernel_rfl) rfl (fun w' hw' => lfold_spec (l := rs) (ro_ownC (H0 := []) hw' (.tail _ (.head _))) lenP) rfl fun v9 _ => ?_
  refine tk_ownA (.head _) fun hfv9 => ?_; refine s_q rfl (y_assign rfl) ?_; refine s_n ?_; refine tk_retc ?_
  exact tk_ret (v9) (trivial) (.inl rfl) (r1 rfl rfl) (List.Sublist.refl _)
theorem fits_spec {r : Rec} {hk mk nk la : List UInt8} {lb tb sb cb : Nat} {rv : Value} {rs : List Rec} {w : World} (h3 : hk.length = 32 ∧ mk.length = 32 ∧ nk.length = 32) (hla : la.length = 32) (hrl : rs.length < 1000000) (hh : Pre w [cel lb (hk.map B ++ (mk.map B ++ (nk.map B ++ ([Value.pointer (some ⟨tb, 0, none⟩), .pointer (some ⟨sb, 0, none⟩), .pointer (some ⟨cb, 0, none⟩), rv] ++ (la.map B))))) 167, own rv rs.length (rs.flatMap rcC) 63 36]) : Spec Tryz.prog 83 [.pointer (some ⟨lb, 0, none⟩), .agg ([I (r.kind), I (r.s.seq), I (r.s.time), Str r.s.note] ++ (r.s.root.map B)).toArray] w [cel lb (hk.map B ++ (mk.map B ++ (nk.map B ++ ([Value.pointer (some ⟨tb, 0, none⟩), .pointer (some ⟨sb, 0, none⟩), .pointer (some ⟨cb, 0, none⟩), rv] ++ (la.map B))))) 167, own rv rs.length (rs.flatMap rcC) 63 36] (fun _ : Unit => True) (fun _ => .bool (decide (fitsR rs r))) (fun _ => [cel lb (hk.map B ++ (mk.map B ++ (nk.map B ++ ([Value.pointer (some ⟨tb, 0, none⟩), .pointer (some ⟨sb, 0, none⟩), .pointer (some ⟨cb, 0, none⟩), rv] ++ (la.map B))))) 167, own rv rs.length (rs.flatMap rcC) 63 36]) := by
  refine spec_of (n := 22) Tryz.func83 rfl rfl hh.1 hh.2 rfl ?_
  obtain ⟨hk32, mk32, nk32⟩ := h3
  refine tk_ownA (.tail _ (.head _)) fun hfr => ?_
  have hrh := r.s.h
  have hfl := foldR_len (l := rs)
  refine s_r ?_; refine tk_act rfl ?_; refine a_boxL (cs := [I (r.kind), I (r.s.seq), I (r.s.time), Str r.s.note] ++ (r.s.root.map B)) rfl rfl fun b3 => ?_; refine s_q rfl (y_assign rfl) ?_; refine s_n ?_; refine tk_seq ?_; refine s_r ?_; refine s_q rfl (y_fld0 (o := 0) rfl (by kernel_rfl)) ?_; refine s_q rfl (y_load rfl rfl (hc (o := 0) (.head _) (rfl))) ?_; refine s_q rfl (y_eql rfl rfl) ?_; refine s_n ?_
  refine tk_condP rfl (fun ht7 => ?_) (fun ht7 => ?_)
  · skip
    refine tk_seq ?_; refine tk_drawH [cel b3 ([I (r.kind), I (r.s.seq), I (r.s.time), Str r.s.note] ++ (r.s.root.map B)) 63, cel lb (hk.map B ++ (mk.map B ++ (nk.map B ++ ([Value.pointer (some ⟨tb, 0, none⟩), .pointer (some ⟨sb, 0, none⟩), .pointer (some ⟨cb, 0, none⟩), rv] ++ (la.map B))))) 167, own rv rs.length (rs.flatMap rcC) 63 36] [] (by kernel_rfl) ?_; refine s_x 0 rfl (y_fldN (o := 0) 1 rfl (by kernel_rfl)) ?_
    refine s_x 1 rfl (y_fld0 (o := 1) rfl (by kernel_rfl)) ?_; refine s_l 2 rfl (fun _ h => h.sub (List.Sublist.refl _)) (y_load rfl rfl (hc (o := 1) (.head _) (rfl))) ?_; refine s_x 3 rfl (y_move rfl) ?_; refine s_x 4 rfl (y_nilCheck rfl) ?_; refine s_x 5 rfl (y_fldN (o := 0) 99 rfl (by kernel_rfl)) ?_; refine s_l 6 rfl (fun _ h => h.sub (List.Sublist.refl _)) (y_load rfl rfl (hc (o := 99) (.tail _ (.head _)) (gA (k := 32) (i := 67) (by rw [List.length_map]; exact hk32) (by omega) (gA (k := 32) (i := 35) (by rw [List.length_map]; exact mk32) (by omega) (gA (k := 32) (i := 3) (by rw [List.length_map]; exact nk32) (by omega) (rfl)))))) ?_
    refine s_x 7 rfl (y_lenE rfl hfr.choose_spec rfl) ?_; refine s_x 8 rfl (y_addN (a := rs.length) (b := 1) rfl rfl (by omega)) ?_; refine s_x 9 rfl (y_eql rfl rfl) ?_; refine s_x 10 rfl (y_assign rfl) ?_; refine tx_done (by kernel_rfl) ?_; refine tk_then ?_; refine tk_retc ?_; refine tk_then_ret ?_; refine tk_re 4 (.bool (decide (r.s.seq = ((rs.length + 1 : Nat) : Int)))) (.bool (decide (fitsR rs r))) rfl (congrArg Value.bool (by rw [decide_eq_decide]; exact fits_1 ht7)) ?_
    exact tk_ret (()) (trivial) (.inl rfl) (r1 rfl rfl) (.cons _ (List.Sublist.refl _))
  · skip
    refine tk_skip ?_; refine tk_then ?_; refine s_r ?_; refine s_q rfl (y_move rfl) ?_; refine tk_act rfl ?_; refine tk_perm _ mv2 ?_; refine tk_perm _ mv2 ?_; refine a_callv [] _ rfl (by kernel_rfl) rfl (fun w' hw' => snaps_spec (hk := hk) (mk := mk) (nk := nk) (tb := tb) (cb := cb) (lb := lb) (rv := rv) (rs := rs) (la := la) ⟨lenP, lenP, lenP⟩ lenP lenP (St.pre hw')) rfl fun v19 _ => ?_; refine tk_ownA (.head _) fun hfv19 => ?_
    refine s_q rfl (y_makeFunc (cs := [.pointer (some ⟨b3, 0, none⟩)]) rfl) ?_; refine tk_act rfl ?_; refine tk_perm _ mv3 ?_; refine tk_perm _ mv1 ?_; refine a_callv [] _ rfl (by kernel_rfl) rfl (fun w' hw' => conF_spec (v := v19) (l := foldR rs) (rb := b3) (r := r) lenP (St.pre hw')) rfl fun _ _ => ?_; refine s_q rfl (y_assign rfl) ?_; refine s_n ?_; refine tk_retc ?_; refine tk_re 4 (.bool (decide (hasS (foldR rs) r.s.seq))) (.bool (decide (fitsR rs r))) rfl (congrArg Value.bool (by rw [decide_eq_decide]; exact fits_2 ht7)) ?_
    exact tk_ret (()) (trivial) (.inl rfl) (r1 rfl rfl) (.cons _ (.cons _ (List.Sublist.refl _)))
theorem check_spec {r : Rec} {s : Sh} {cn : Int} {mb : Nat} {hk mk nk la : List UInt8} {lb tb sb cb : Nat} {rv : Value} {rs : List Rec} {w : World} (h3 : hk.length = 32 ∧ mk.length = 32 ∧ nk.length = 32) (hla : la.length = 32) (hrl : rs.length < 1000000) (hnt : r.s.note.length < 9223372036854775808) (hok : ShOk s) (hh : Pre w [cel lb (hk.map B ++ (mk.map B ++ (nk.map B ++ ([Value.pointer (some ⟨tb, 0, none⟩), .pointer (some ⟨sb, 0, none⟩), .pointer (some ⟨cb, 0, none⟩), rv] ++ (la.map B))))) 167, own rv rs.length (rs.flatMap rcC) 63 36, cel cb ([Value.pointer (some ⟨sb, 0, none⟩), I (cn)]) 237, cel sb ([Value.map (some mb), I (s.left), .bool s.off, I (s.made), I (s.room)]) 192, mapS mb (kvO s.obs), bag (s.obs.map (obR 5))]) : Spec Tryz.prog 85 [.pointer (some ⟨lb, 0, none⟩), .agg ([I (r.kind), I (r.s.seq), I (r.s.time), Str r.s.note] ++ (r.s.root.map B)).toArray] w [cel lb (hk.map B ++ (mk.map B ++ (nk.map B ++ ([Value.pointer (some ⟨tb, 0, none⟩), .pointer (some ⟨sb, 0, none⟩), .pointer (some ⟨cb, 0, none⟩), rv] ++ (la.map B))))) 167, own rv rs.length (rs.flatMap rcC) 63 36, cel cb ([Value.pointer (some ⟨sb, 0, none⟩), I (cn)]) 237, cel sb ([Value.map (some mb), I (s.left), .bool s.off, I (s.made), I (s.room)]) 192, mapS mb (kvO s.obs), bag (s.obs.map (obR 5))] (fun _ : Unit => True) (fun _ => I ((checkR rs s.off cn r : Nat) : Int)) (fun _ => [cel lb (hk.map B ++ (mk.map B ++ (nk.map B ++ ([Value.pointer (some ⟨tb, 0, none⟩), .pointer (some ⟨sb, 0, none⟩), .pointer (some ⟨cb, 0, none⟩), rv] ++ (la.map B))))) 167, own rv rs.length (rs.flatMap rcC) 63 36, cel cb ([Value.pointer (some ⟨sb, 0, none⟩), I (cn)]) 237, cel sb ([Value.map (some mb), I (s.left), .bool s.off, I (s.made), I (s.room)]) 192, mapS mb (kvO s.obs), bag (s.obs.map (obR 5))]) := by
  refine spec_of (n := 61) Tryz.func85 rfl rfl hh.1 hh.2 rfl ?_
  obtain ⟨hk32, mk32, nk32⟩ := h3
  refine tk_ownA (.tail _ (.head _)) fun hfr => ?_
  have hrh := r.s.h
  have hfl := foldR_len (l := rs)
  refine s_r ?_; refine tk_act rfl ?_; refine a_boxL (cs := [I (r.kind), I (r.s.seq), I (r.s.time), Str r.s.note] ++ (r.s.root.map B)) rfl rfl fun b3 => ?_; refine s_q rfl (y_assign rfl) ?_; refine s_n ?_; refine s_r ?_; refine s_q rfl (y_move rfl) ?_; refine tk_act rfl ?_; refine tk_perm _ mv2 ?_; refine tk_perm _ mv2 ?_; refine a_callv [] _ rfl (by kernel_rfl) rfl (fun w' hw' => snaps_spec (hk := hk) (mk := mk) (nk := nk) (tb := tb) (cb := cb) (lb := lb) (rv := rv) (rs := rs) (la := la) ⟨lenP, lenP, lenP⟩ lenP lenP (St.pre hw')) rfl fun v9 _ => ?_
  refine tk_ownA (.head _) fun hfv9 => ?_; refine s_q rfl (y_assign rfl) ?_; refine s_n ?_; refine tk_seq ?_; refine tk_block ?_; refine s_r ?_; refine s_q rfl (y_loadA 36 rfl (by kernel_rfl) lenP (hcw (.tail _ (.tail _ (.tail _ (.head _)))))) ?_; refine tk_act rfl ?_; refine a_callv [] _ rfl (by kernel_rfl) rfl (fun w' hw' => rightR_spec (r := r) hnt) rfl fun _ _ => ?_; refine s_q rfl ((y_not rfl).cast (notdec _)) ?_
  refine s_q rfl (y_assign rfl) ?_; refine s_n ?_; refine tk_condP rfl (fun ht10 => ?_) (fun ht10 => ?_)
  · skip
    refine s_r ?_; refine s_q rfl (y_assign rfl) ?_; refine s_n ?_; refine tk_retc ?_; refine tk_in_ret ?_; refine tk_then_ret ?_; refine tk_re 4 (I 2) (I ((checkR rs s.off cn r : Nat) : Int)) rfl (by rw [ck_2 ht10]; rfl) ?_
    exact tk_ret (()) (trivial) (.inl rfl) (r1 rfl rfl) (.cons _ (.cons_cons _ (.cons_cons _ (.cons _ (List.Sublist.refl _)))))
  · skip
    refine s_r ?_; refine s_q rfl (y_fld0 (o := 0) rfl (by kernel_rfl)) ?_; refine s_q rfl (y_load rfl rfl (hc (o := 0) (.tail _ (.tail _ (.tail _ (.head _)))) (rfl))) ?_; refine tk_qs rfl rfl rfl (y_eql rfl rfl) (fun hs4_2 => ?_) (fun hs4_2 => ?_)
    · skip
      refine s_q rfl (y_move rfl) ?_; refine s_g rfl (y_move rfl) ?_; refine s_g rfl (y_loadA 36 rfl (by kernel_rfl) lenP (hcw (.tail _ (.tail _ (.tail _ (.head _)))))) ?_; refine tk_gact rfl ?_; refine tk_perm _ mv2 ?_; refine tk_perm _ mv2 ?_; refine a_callv [] _ rfl (by kernel_rfl) rfl (fun w' hw' => fits_spec (r := r) (hk := hk) (mk := mk) (nk := nk) (tb := tb) (cb := cb) (lb := lb) (rv := rv) (rs := rs) (la := la) ⟨lenP, lenP, lenP⟩ lenP lenP (St.pre hw')) rfl fun _ _ => ?_
      refine s_g rfl ((y_not rfl).cast (notdec _)) ?_; refine s_q rfl (y_pick1 rfl rfl) ?_; refine s_q rfl (y_assign rfl) ?_; refine s_n ?_; refine tk_condP rfl (fun ht14 => ?_) (fun ht14 => ?_)
      · skip
        refine s_r ?_; refine s_q rfl (y_assign rfl) ?_; refine s_n ?_; refine tk_retc ?_; refine tk_in_ret ?_; refine tk_then_ret ?_; refine tk_re 4 (I 6) (I ((checkR rs s.off cn r : Nat) : Int)) rfl (by rw [ck_6 (Classical.not_not.1 ht10) ⟨hs4_2, ht14⟩]; rfl) ?_
        exact tk_ret (()) (trivial) (.inl rfl) (r1 rfl rfl) (.cons_cons _ (.cons_cons _ (.cons _ (.cons _ (List.Sublist.refl _)))))
      · skip
        refine s_r ?_; refine s_q rfl (y_fld0 (o := 0) rfl (by kernel_rfl)) ?_; refine s_q rfl (y_load rfl rfl (hc (o := 0) (.tail _ (.tail _ (.tail _ (.head _)))) (rfl))) ?_; refine tk_qs rfl rfl rfl (y_eql rfl rfl) (fun hs6_2 => ?_) (fun hs6_2 => ?_)
        · skip
          refine s_q rfl (y_move rfl) ?_; refine s_g rfl (y_move rfl) ?_; refine s_g rfl (y_lenE rfl hfv9.choose_spec rfl) ?_; refine s_g rfl (y_geq rfl rfl) ?_; refine tk_qs rfl rfl rfl (y_pick1 rfl rfl) (fun hs6_7 => ?_) (fun hs6_7 => ?_)
          · skip
            refine s_q rfl (y_move rfl) ?_; refine tk_gno rfl rfl rfl ?_; refine tk_gno rfl rfl rfl ?_; refine tk_gno rfl rfl rfl ?_; refine tk_gno rfl rfl rfl ?_; refine tk_gno rfl rfl rfl ?_; refine tk_gno rfl rfl rfl ?_; refine s_q rfl (y_pick1 rfl rfl) ?_; refine s_q rfl (y_assign rfl) ?_; refine s_n ?_; refine tk_cond1 rfl ?_; refine s_r ?_; refine s_q rfl (y_assign rfl) ?_; refine s_n ?_; refine tk_retc ?_
            refine tk_in_ret ?_; refine tk_then_ret ?_; refine tk_re 4 (I 8) (I ((checkR rs s.off cn r : Nat) : Int)) rfl (by rw [ck_8 (Classical.not_not.1 ht10) (fun q => by first | exact ht14 q.2 | exact hs4_2 q.1) (by first | exact .inl ⟨hs6_2, by omega⟩ | exact .inr (by omega))]; rfl) ?_
            exact tk_ret (()) (trivial) (.inl rfl) (r1 rfl rfl) (.cons_cons _ (.cons_cons _ (.cons _ (.cons _ (List.Sublist.refl _)))))
          · skip
            refine s_q rfl (y_move rfl) ?_; refine s_g rfl (y_move rfl) ?_; refine s_g rfl (y_nilCheck rfl) ?_; refine s_g rfl (y_fldN (o := 0) 99 rfl (by kernel_rfl)) ?_; refine s_g rfl (y_load rfl rfl (hc (o := 99) (.head _) (gA (k := 32) (i := 67) (by rw [List.length_map]; exact hk32) (by omega) (gA (k := 32) (i := 35) (by rw [List.length_map]; exact mk32) (by omega) (gA (k := 32) (i := 3) (by rw [List.length_map]; exact nk32) (by omega) (rfl)))))) ?_
            refine s_g rfl (y_lenE rfl hfr.choose_spec rfl) ?_; refine s_g rfl (y_geq rfl rfl) ?_; refine s_q rfl (y_pick0 rfl rfl) ?_; refine s_q rfl (y_assign rfl) ?_; refine s_n ?_; refine tk_condP rfl (fun ht24 => ?_) (fun ht24 => ?_)
            · skip
              refine s_r ?_; refine s_q rfl (y_assign rfl) ?_; refine s_n ?_; refine tk_retc ?_; refine tk_in_ret ?_; refine tk_then_ret ?_; refine tk_re 4 (I 8) (I ((checkR rs s.off cn r : Nat) : Int)) rfl (by rw [ck_8 (Classical.not_not.1 ht10) (fun q => by first | exact ht14 q.2 | exact hs4_2 q.1) (by first | exact .inl ⟨hs6_2, by omega⟩ | exact .inr (by omega))]; rfl) ?_
              exact tk_ret (()) (trivial) (.inl rfl) (r1 rfl rfl) (.cons_cons _ (.cons_cons _ (.cons _ (.cons _ (List.Sublist.refl _)))))
            · skip
              refine tk_skip ?_; refine tk_in_normal ?_; refine tk_then ?_; refine s_r ?_; refine s_q rfl (y_move rfl) ?_; refine s_q rfl (y_nilCheck rfl) ?_; refine s_q rfl (y_fldN (o := 0) 98 rfl (by kernel_rfl)) ?_; refine s_q rfl (y_load rfl rfl (hc (o := 98) (.head _) (gA (k := 32) (i := 66) (by rw [List.length_map]; exact hk32) (by omega) (gA (k := 32) (i := 34) (by rw [List.length_map]; exact mk32) (by omega) (gA (k := 32) (i := 2) (by rw [List.length_map]; exact nk32) (by omega) (rfl)))))) ?_
              refine tk_act rfl ?_; refine tk_perm _ mv7 ?_; refine tk_perm _ mv7 ?_; refine tk_perm _ mv7 ?_; refine tk_perm _ mv7 ?_; refine a_callv [] _ rfl (by kernel_rfl) rfl (fun w' hw' => cread_spec (s := s) (cb := cb) (cn := cn) hok (St.pre hw')) rfl fun _ _ => ?_; refine s_q rfl (y_move rfl) ?_; refine s_q rfl (y_extract rfl rfl) ?_; refine s_q rfl (y_extract rfl rfl) ?_; refine s_q rfl (y_assign rfl) ?_
              refine s_q rfl (y_assign rfl) ?_; refine s_n ?_; refine tk_seq ?_; refine s_r ?_; refine s_q rfl (y_move rfl) ?_; refine tk_qs rfl rfl rfl (y_eql rfl rfl) (fun hs9_1 => ?_) (fun hs9_1 => ?_)
              · skip
                refine s_q rfl (y_move rfl) ?_; refine s_g rfl (y_move rfl) ?_; refine s_g rfl (y_move rfl) ?_; refine s_g rfl (y_nilCheck rfl) ?_; refine s_g rfl (y_fldN (o := 0) 99 rfl (by kernel_rfl)) ?_; refine s_g rfl (y_load rfl rfl (hc (o := 99) (.tail _ (.tail _ (.tail _ (.tail _ (.head _))))) (gA (k := 32) (i := 67) (by rw [List.length_map]; exact hk32) (by omega) (gA (k := 32) (i := 35) (by rw [List.length_map]; exact mk32) (by omega) (gA (k := 32) (i := 3) (by rw [List.length_map]; exact nk32) (by omega) (rfl)))))) ?_
                refine s_g rfl (y_lenE rfl hfr.choose_spec rfl) ?_; refine s_g rfl (y_neq rfl rfl) ?_; refine s_q rfl (y_pick1 rfl rfl) ?_; refine s_n ?_; refine tk_condP rfl (fun ht59 => ?_) (fun ht59 => ?_)
                · skip
                  refine tk_region ?_; refine s_q rfl (y_assign rfl) ?_; refine s_n ?_; refine s_r ?_; refine s_q rfl (y_move rfl) ?_; refine s_q rfl (y_assign rfl) ?_; refine s_n ?_; refine tk_retc ?_
                  have hno : ¬ s.off = true := fun h => by rw [if_pos h] at hs9_1; omega
                  refine tk_re 4 (I 12) (I ((checkR rs s.off cn r : Nat) : Int)) rfl (by rw [ck_12 (Classical.not_not.1 ht10) (fun q => by first | exact ht14 q.2 | exact hs4_2 q.1) (by omega) hno (by rw [if_neg hno] at ht59; exact ht59)]; rfl) ?_; refine tk_perm _ mv3 ?_; refine tk_perm _ mv3 ?_; refine tk_perm _ mv3 ?_; refine tk_perm _ mv3 ?_; refine tk_perm _ mv5 ?_; refine tk_perm _ mv5 ?_
                  exact tk_ret (()) (trivial) (.inl rfl) (r1 rfl rfl) (.cons_cons _ (.cons_cons _ (.cons_cons _ (.cons_cons _ (.cons_cons _ (.cons_cons _ (List.nil_sublist _)))))))
                · skip
                  refine tk_skip ?_; refine tk_then ?_; refine s_r ?_; refine s_q rfl (y_move rfl) ?_; refine s_q rfl (y_assign rfl) ?_; refine s_n ?_; refine tk_retc ?_
                  have hno : ¬ s.off = true := fun h => by rw [if_pos h] at hs9_1; omega
                  refine tk_re 4 (I (((if s.off = true then 9 else 0) : Nat) : Int)) (I ((checkR rs s.off cn r : Nat) : Int)) rfl (by rw [ck_0 (Classical.not_not.1 ht10) (fun q => by first | exact ht14 q.2 | exact hs4_2 q.1) (by omega) hno (by rw [if_neg hno] at ht59; exact Classical.not_not.1 ht59), if_neg hno]) ?_; refine tk_perm _ mv3 ?_; refine tk_perm _ mv3 ?_; refine tk_perm _ mv3 ?_; refine tk_perm _ mv3 ?_
                  refine tk_perm _ mv5 ?_; refine tk_perm _ mv5 ?_
                  exact tk_ret (()) (trivial) (.inl rfl) (r1 rfl rfl) (.cons_cons _ (.cons_cons _ (.cons_cons _ (.cons_cons _ (.cons_cons _ (.cons_cons _ (List.nil_sublist _)))))))
              · skip
                refine s_q rfl (y_move rfl) ?_; refine tk_gno rfl rfl rfl ?_; refine tk_gno rfl rfl rfl ?_; refine tk_gno rfl rfl rfl ?_; refine tk_gno rfl rfl rfl ?_; refine tk_gno rfl rfl rfl ?_; refine tk_gno rfl rfl rfl ?_; refine tk_gno rfl rfl rfl ?_; refine s_q rfl (y_pick0 rfl rfl) ?_; refine s_n ?_; refine tk_cond0 rfl ?_; refine tk_skip ?_; refine tk_then ?_; refine s_r ?_; refine s_q rfl (y_move rfl) ?_
                refine s_q rfl (y_assign rfl) ?_; refine s_n ?_; refine tk_retc ?_
                have hof : s.off = true := Classical.not_not.1 fun h => by rw [if_neg h] at hs9_1; omega
                refine tk_re 4 (I (((if s.off = true then 9 else 0) : Nat) : Int)) (I ((checkR rs s.off cn r : Nat) : Int)) rfl (by rw [ck_9 (Classical.not_not.1 ht10) (fun q => by first | exact ht14 q.2 | exact hs4_2 q.1) (by omega) hof, if_pos hof]) ?_; refine tk_perm _ mv3 ?_; refine tk_perm _ mv3 ?_; refine tk_perm _ mv3 ?_; refine tk_perm _ mv3 ?_; refine tk_perm _ mv5 ?_; refine tk_perm _ mv5 ?_
                exact tk_ret (()) (trivial) (.inl rfl) (r1 rfl rfl) (.cons_cons _ (.cons_cons _ (.cons_cons _ (.cons_cons _ (.cons_cons _ (.cons_cons _ (List.nil_sublist _)))))))
        · skip
          refine s_q rfl (y_move rfl) ?_; refine tk_gno rfl rfl rfl ?_; refine tk_gno rfl rfl rfl ?_; refine tk_gno rfl rfl rfl ?_; refine s_q rfl (y_pick0 rfl rfl) ?_; refine s_q rfl (y_move rfl) ?_; refine s_g rfl (y_move rfl) ?_; refine s_g rfl (y_nilCheck rfl) ?_; refine s_g rfl (y_fldN (o := 0) 99 rfl (by kernel_rfl)) ?_; refine s_g rfl (y_load rfl rfl (hc (o := 99) (.head _) (gA (k := 32) (i := 67) (by rw [List.length_map]; exact hk32) (by omega) (gA (k := 32) (i := 35) (by rw [List.length_map]; exact mk32) (by omega) (gA (k := 32) (i := 3) (by rw [List.length_map]; exact nk32) (by omega) (rfl)))))) ?_
          refine s_g rfl (y_lenE rfl hfr.choose_spec rfl) ?_; refine s_g rfl (y_geq rfl rfl) ?_; refine s_q rfl (y_pick0 rfl rfl) ?_; refine s_q rfl (y_assign rfl) ?_; refine s_n ?_; refine tk_condP rfl (fun ht24 => ?_) (fun ht24 => ?_)
          · skip
            refine s_r ?_; refine s_q rfl (y_assign rfl) ?_; refine s_n ?_; refine tk_retc ?_; refine tk_in_ret ?_; refine tk_then_ret ?_; refine tk_re 4 (I 8) (I ((checkR rs s.off cn r : Nat) : Int)) rfl (by rw [ck_8 (Classical.not_not.1 ht10) (fun q => by first | exact ht14 q.2 | exact hs4_2 q.1) (by first | exact .inl ⟨hs6_2, by omega⟩ | exact .inr (by omega))]; rfl) ?_
            exact tk_ret (()) (trivial) (.inl rfl) (r1 rfl rfl) (.cons_cons _ (.cons_cons _ (.cons _ (.cons _ (List.Sublist.refl _)))))
          · skip
            refine tk_skip ?_; refine tk_in_normal ?_; refine tk_then ?_; refine s_r ?_; refine s_q rfl (y_move rfl) ?_; refine s_q rfl (y_nilCheck rfl) ?_; refine s_q rfl (y_fldN (o := 0) 98 rfl (by kernel_rfl)) ?_; refine s_q rfl (y_load rfl rfl (hc (o := 98) (.head _) (gA (k := 32) (i := 66) (by rw [List.length_map]; exact hk32) (by omega) (gA (k := 32) (i := 34) (by rw [List.length_map]; exact mk32) (by omega) (gA (k := 32) (i := 2) (by rw [List.length_map]; exact nk32) (by omega) (rfl)))))) ?_
            refine tk_act rfl ?_; refine tk_perm _ mv7 ?_; refine tk_perm _ mv7 ?_; refine tk_perm _ mv7 ?_; refine tk_perm _ mv7 ?_; refine a_callv [] _ rfl (by kernel_rfl) rfl (fun w' hw' => cread_spec (s := s) (cb := cb) (cn := cn) hok (St.pre hw')) rfl fun _ _ => ?_; refine s_q rfl (y_move rfl) ?_; refine s_q rfl (y_extract rfl rfl) ?_; refine s_q rfl (y_extract rfl rfl) ?_; refine s_q rfl (y_assign rfl) ?_
            refine s_q rfl (y_assign rfl) ?_; refine s_n ?_; refine tk_seq ?_; refine s_r ?_; refine s_q rfl (y_move rfl) ?_; refine tk_qs rfl rfl rfl (y_eql rfl rfl) (fun hs9_1 => ?_) (fun hs9_1 => ?_)
            · skip
              refine s_q rfl (y_move rfl) ?_; refine s_g rfl (y_move rfl) ?_; refine s_g rfl (y_move rfl) ?_; refine s_g rfl (y_nilCheck rfl) ?_; refine s_g rfl (y_fldN (o := 0) 99 rfl (by kernel_rfl)) ?_; refine s_g rfl (y_load rfl rfl (hc (o := 99) (.tail _ (.tail _ (.tail _ (.tail _ (.head _))))) (gA (k := 32) (i := 67) (by rw [List.length_map]; exact hk32) (by omega) (gA (k := 32) (i := 35) (by rw [List.length_map]; exact mk32) (by omega) (gA (k := 32) (i := 3) (by rw [List.length_map]; exact nk32) (by omega) (rfl)))))) ?_
              refine s_g rfl (y_lenE rfl hfr.choose_spec rfl) ?_; refine s_g rfl (y_neq rfl rfl) ?_; refine s_q rfl (y_pick1 rfl rfl) ?_; refine s_n ?_; refine tk_condP rfl (fun ht59 => ?_) (fun ht59 => ?_)
              · skip
                refine tk_region ?_; refine s_q rfl (y_assign rfl) ?_; refine s_n ?_; refine s_r ?_; refine s_q rfl (y_move rfl) ?_; refine s_q rfl (y_assign rfl) ?_; refine s_n ?_; refine tk_retc ?_
                have hno : ¬ s.off = true := fun h => by rw [if_pos h] at hs9_1; omega
                refine tk_re 4 (I 12) (I ((checkR rs s.off cn r : Nat) : Int)) rfl (by rw [ck_12 (Classical.not_not.1 ht10) (fun q => by first | exact ht14 q.2 | exact hs4_2 q.1) (by omega) hno (by rw [if_neg hno] at ht59; exact ht59)]; rfl) ?_; refine tk_perm _ mv3 ?_; refine tk_perm _ mv3 ?_; refine tk_perm _ mv3 ?_; refine tk_perm _ mv3 ?_; refine tk_perm _ mv5 ?_; refine tk_perm _ mv5 ?_
                exact tk_ret (()) (trivial) (.inl rfl) (r1 rfl rfl) (.cons_cons _ (.cons_cons _ (.cons_cons _ (.cons_cons _ (.cons_cons _ (.cons_cons _ (List.nil_sublist _)))))))
              · skip
                refine tk_skip ?_; refine tk_then ?_; refine s_r ?_; refine s_q rfl (y_move rfl) ?_; refine s_q rfl (y_assign rfl) ?_; refine s_n ?_; refine tk_retc ?_
                have hno : ¬ s.off = true := fun h => by rw [if_pos h] at hs9_1; omega
                refine tk_re 4 (I (((if s.off = true then 9 else 0) : Nat) : Int)) (I ((checkR rs s.off cn r : Nat) : Int)) rfl (by rw [ck_0 (Classical.not_not.1 ht10) (fun q => by first | exact ht14 q.2 | exact hs4_2 q.1) (by omega) hno (by rw [if_neg hno] at ht59; exact Classical.not_not.1 ht59), if_neg hno]) ?_; refine tk_perm _ mv3 ?_; refine tk_perm _ mv3 ?_; refine tk_perm _ mv3 ?_; refine tk_perm _ mv3 ?_
                refine tk_perm _ mv5 ?_; refine tk_perm _ mv5 ?_
                exact tk_ret (()) (trivial) (.inl rfl) (r1 rfl rfl) (.cons_cons _ (.cons_cons _ (.cons_cons _ (.cons_cons _ (.cons_cons _ (.cons_cons _ (List.nil_sublist _)))))))
            · skip
              refine s_q rfl (y_move rfl) ?_; refine tk_gno rfl rfl rfl ?_; refine tk_gno rfl rfl rfl ?_; refine tk_gno rfl rfl rfl ?_; refine tk_gno rfl rfl rfl ?_; refine tk_gno rfl rfl rfl ?_; refine tk_gno rfl rfl rfl ?_; refine tk_gno rfl rfl rfl ?_; refine s_q rfl (y_pick0 rfl rfl) ?_; refine s_n ?_; refine tk_cond0 rfl ?_; refine tk_skip ?_; refine tk_then ?_; refine s_r ?_; refine s_q rfl (y_move rfl) ?_
              refine s_q rfl (y_assign rfl) ?_; refine s_n ?_; refine tk_retc ?_
              have hof : s.off = true := Classical.not_not.1 fun h => by rw [if_neg h] at hs9_1; omega
              refine tk_re 4 (I (((if s.off = true then 9 else 0) : Nat) : Int)) (I ((checkR rs s.off cn r : Nat) : Int)) rfl (by rw [ck_9 (Classical.not_not.1 ht10) (fun q => by first | exact ht14 q.2 | exact hs4_2 q.1) (by omega) hof, if_pos hof]) ?_; refine tk_perm _ mv3 ?_; refine tk_perm _ mv3 ?_; refine tk_perm _ mv3 ?_; refine tk_perm _ mv3 ?_; refine tk_perm _ mv5 ?_; refine tk_perm _ mv5 ?_
              exact tk_ret (()) (trivial) (.inl rfl) (r1 rfl rfl) (.cons_cons _ (.cons_cons _ (.cons_cons _ (.cons_cons _ (.cons_cons _ (.cons_cons _ (List.nil_sublist _)))))))
    · skip
      refine s_q rfl (y_move rfl) ?_; refine tk_gno rfl rfl rfl ?_; refine tk_gno rfl rfl rfl ?_; refine tk_gno rfl rfl rfl ?_; refine tk_gno rfl rfl rfl ?_; refine s_q rfl (y_pick0 rfl rfl) ?_; refine s_q rfl (y_assign rfl) ?_; refine s_n ?_; refine tk_cond0 rfl ?_; refine s_r ?_; refine s_q rfl (y_fld0 (o := 0) rfl (by kernel_rfl)) ?_; refine s_q rfl (y_load rfl rfl (hc (o := 0) (.tail _ (.tail _ (.tail _ (.head _)))) (rfl))) ?_
      refine tk_qs rfl rfl rfl (y_eql rfl rfl) (fun hs6_2 => ?_) (fun hs6_2 => ?_)
      · skip
        refine s_q rfl (y_move rfl) ?_; refine s_g rfl (y_move rfl) ?_; refine s_g rfl (y_lenE rfl hfv9.choose_spec rfl) ?_; refine s_g rfl (y_geq rfl rfl) ?_; refine tk_qs rfl rfl rfl (y_pick1 rfl rfl) (fun hs6_7 => ?_) (fun hs6_7 => ?_)
        · skip
          refine s_q rfl (y_move rfl) ?_; refine tk_gno rfl rfl rfl ?_; refine tk_gno rfl rfl rfl ?_; refine tk_gno rfl rfl rfl ?_; refine tk_gno rfl rfl rfl ?_; refine tk_gno rfl rfl rfl ?_; refine tk_gno rfl rfl rfl ?_; refine s_q rfl (y_pick1 rfl rfl) ?_; refine s_q rfl (y_assign rfl) ?_; refine s_n ?_; refine tk_cond1 rfl ?_; refine s_r ?_; refine s_q rfl (y_assign rfl) ?_; refine s_n ?_; refine tk_retc ?_
          refine tk_in_ret ?_; refine tk_then_ret ?_; refine tk_re 4 (I 8) (I ((checkR rs s.off cn r : Nat) : Int)) rfl (by rw [ck_8 (Classical.not_not.1 ht10) (fun q => by first | exact ht14 q.2 | exact hs4_2 q.1) (by first | exact .inl ⟨hs6_2, by omega⟩ | exact .inr (by omega))]; rfl) ?_
          exact tk_ret (()) (trivial) (.inl rfl) (r1 rfl rfl) (.cons _ (.cons_cons _ (.cons_cons _ (.cons _ (List.Sublist.refl _)))))
        · skip
          refine s_q rfl (y_move rfl) ?_; refine s_g rfl (y_move rfl) ?_; refine s_g rfl (y_nilCheck rfl) ?_; refine s_g rfl (y_fldN (o := 0) 99 rfl (by kernel_rfl)) ?_; refine s_g rfl (y_load rfl rfl (hc (o := 99) (.tail _ (.head _)) (gA (k := 32) (i := 67) (by rw [List.length_map]; exact hk32) (by omega) (gA (k := 32) (i := 35) (by rw [List.length_map]; exact mk32) (by omega) (gA (k := 32) (i := 3) (by rw [List.length_map]; exact nk32) (by omega) (rfl)))))) ?_
          refine s_g rfl (y_lenE rfl hfr.choose_spec rfl) ?_; refine s_g rfl (y_geq rfl rfl) ?_; refine s_q rfl (y_pick0 rfl rfl) ?_; refine s_q rfl (y_assign rfl) ?_; refine s_n ?_; refine tk_condP rfl (fun ht24 => ?_) (fun ht24 => ?_)
          · skip
            refine s_r ?_; refine s_q rfl (y_assign rfl) ?_; refine s_n ?_; refine tk_retc ?_; refine tk_in_ret ?_; refine tk_then_ret ?_; refine tk_re 4 (I 8) (I ((checkR rs s.off cn r : Nat) : Int)) rfl (by rw [ck_8 (Classical.not_not.1 ht10) (fun q => by first | exact ht14 q.2 | exact hs4_2 q.1) (by first | exact .inl ⟨hs6_2, by omega⟩ | exact .inr (by omega))]; rfl) ?_
            exact tk_ret (()) (trivial) (.inl rfl) (r1 rfl rfl) (.cons _ (.cons_cons _ (.cons_cons _ (.cons _ (List.Sublist.refl _)))))
          · skip
            refine tk_skip ?_; refine tk_in_normal ?_; refine tk_then ?_; refine s_r ?_; refine s_q rfl (y_move rfl) ?_; refine s_q rfl (y_nilCheck rfl) ?_; refine s_q rfl (y_fldN (o := 0) 98 rfl (by kernel_rfl)) ?_; refine s_q rfl (y_load rfl rfl (hc (o := 98) (.tail _ (.head _)) (gA (k := 32) (i := 66) (by rw [List.length_map]; exact hk32) (by omega) (gA (k := 32) (i := 34) (by rw [List.length_map]; exact mk32) (by omega) (gA (k := 32) (i := 2) (by rw [List.length_map]; exact nk32) (by omega) (rfl)))))) ?_
            refine tk_act rfl ?_; refine tk_perm _ mv7 ?_; refine tk_perm _ mv7 ?_; refine tk_perm _ mv7 ?_; refine tk_perm _ mv7 ?_; refine a_callv [] _ rfl (by kernel_rfl) rfl (fun w' hw' => cread_spec (s := s) (cb := cb) (cn := cn) hok (St.pre hw')) rfl fun _ _ => ?_; refine s_q rfl (y_move rfl) ?_; refine s_q rfl (y_extract rfl rfl) ?_; refine s_q rfl (y_extract rfl rfl) ?_; refine s_q rfl (y_assign rfl) ?_
            refine s_q rfl (y_assign rfl) ?_; refine s_n ?_; refine tk_seq ?_; refine s_r ?_; refine s_q rfl (y_move rfl) ?_; refine tk_qs rfl rfl rfl (y_eql rfl rfl) (fun hs9_1 => ?_) (fun hs9_1 => ?_)
            · skip
              refine s_q rfl (y_move rfl) ?_; refine s_g rfl (y_move rfl) ?_; refine s_g rfl (y_move rfl) ?_; refine s_g rfl (y_nilCheck rfl) ?_; refine s_g rfl (y_fldN (o := 0) 99 rfl (by kernel_rfl)) ?_; refine s_g rfl (y_load rfl rfl (hc (o := 99) (.tail _ (.tail _ (.tail _ (.tail _ (.tail _ (.head _)))))) (gA (k := 32) (i := 67) (by rw [List.length_map]; exact hk32) (by omega) (gA (k := 32) (i := 35) (by rw [List.length_map]; exact mk32) (by omega) (gA (k := 32) (i := 3) (by rw [List.length_map]; exact nk32) (by omega) (rfl)))))) ?_
              refine s_g rfl (y_lenE rfl hfr.choose_spec rfl) ?_; refine s_g rfl (y_neq rfl rfl) ?_; refine s_q rfl (y_pick1 rfl rfl) ?_; refine s_n ?_; refine tk_condP rfl (fun ht59 => ?_) (fun ht59 => ?_)
              · skip
                refine tk_region ?_; refine s_q rfl (y_assign rfl) ?_; refine s_n ?_; refine s_r ?_; refine s_q rfl (y_move rfl) ?_; refine s_q rfl (y_assign rfl) ?_; refine s_n ?_; refine tk_retc ?_
                have hno : ¬ s.off = true := fun h => by rw [if_pos h] at hs9_1; omega
                refine tk_re 4 (I 12) (I ((checkR rs s.off cn r : Nat) : Int)) rfl (by rw [ck_12 (Classical.not_not.1 ht10) (fun q => by first | exact ht14 q.2 | exact hs4_2 q.1) (by omega) hno (by rw [if_neg hno] at ht59; exact ht59)]; rfl) ?_; refine tk_perm _ mv3 ?_; refine tk_perm _ mv3 ?_; refine tk_perm _ mv3 ?_; refine tk_perm _ mv3 ?_; refine tk_perm _ mv6 ?_; refine tk_perm _ mv6 ?_
                exact tk_ret (()) (trivial) (.inl rfl) (r1 rfl rfl) (.cons_cons _ (.cons_cons _ (.cons_cons _ (.cons_cons _ (.cons_cons _ (.cons_cons _ (List.nil_sublist _)))))))
              · skip
                refine tk_skip ?_; refine tk_then ?_; refine s_r ?_; refine s_q rfl (y_move rfl) ?_; refine s_q rfl (y_assign rfl) ?_; refine s_n ?_; refine tk_retc ?_
                have hno : ¬ s.off = true := fun h => by rw [if_pos h] at hs9_1; omega
                refine tk_re 4 (I (((if s.off = true then 9 else 0) : Nat) : Int)) (I ((checkR rs s.off cn r : Nat) : Int)) rfl (by rw [ck_0 (Classical.not_not.1 ht10) (fun q => by first | exact ht14 q.2 | exact hs4_2 q.1) (by omega) hno (by rw [if_neg hno] at ht59; exact Classical.not_not.1 ht59), if_neg hno]) ?_; refine tk_perm _ mv3 ?_; refine tk_perm _ mv3 ?_; refine tk_perm _ mv3 ?_; refine tk_perm _ mv3 ?_
                refine tk_perm _ mv6 ?_; refine tk_perm _ mv6 ?_
                exact tk_ret (()) (trivial) (.inl rfl) (r1 rfl rfl) (.cons_cons _ (.cons_cons _ (.cons_cons _ (.cons_cons _ (.cons_cons _ (.cons_cons _ (List.nil_sublist _)))))))
            · skip
              refine s_q rfl (y_move rfl) ?_; refine tk_gno rfl rfl rfl ?_; refine tk_gno rfl rfl rfl ?_; refine tk_gno rfl rfl rfl ?_; refine tk_gno rfl rfl rfl ?_; refine tk_gno rfl rfl rfl ?_; refine tk_gno rfl rfl rfl ?_; refine tk_gno rfl rfl rfl ?_; refine s_q rfl (y_pick0 rfl rfl) ?_; refine s_n ?_; refine tk_cond0 rfl ?_; refine tk_skip ?_; refine tk_then ?_; refine s_r ?_; refine s_q rfl (y_move rfl) ?_
              refine s_q rfl (y_assign rfl) ?_; refine s_n ?_; refine tk_retc ?_
              have hof : s.off = true := Classical.not_not.1 fun h => by rw [if_neg h] at hs9_1; omega
              refine tk_re 4 (I (((if s.off = true then 9 else 0) : Nat) : Int)) (I ((checkR rs s.off cn r : Nat) : Int)) rfl (by rw [ck_9 (Classical.not_not.1 ht10) (fun q => by first | exact ht14 q.2 | exact hs4_2 q.1) (by omega) hof, if_pos hof]) ?_; refine tk_perm _ mv3 ?_; refine tk_perm _ mv3 ?_; refine tk_perm _ mv3 ?_; refine tk_perm _ mv3 ?_; refine tk_perm _ mv6 ?_; refine tk_perm _ mv6 ?_
              exact tk_ret (()) (trivial) (.inl rfl) (r1 rfl rfl) (.cons_cons _ (.cons_cons _ (.cons_cons _ (.cons_cons _ (.cons_cons _ (.cons_cons _ (List.nil_sublist _)))))))
      · skip
        refine s_q rfl (y_move rfl) ?_; refine tk_gno rfl rfl rfl ?_; refine tk_gno rfl rfl rfl ?_; refine tk_gno rfl rfl rfl ?_; refine s_q rfl (y_pick0 rfl rfl) ?_; refine s_q rfl (y_move rfl) ?_; refine s_g rfl (y_move rfl) ?_; refine s_g rfl (y_nilCheck rfl) ?_; refine s_g rfl (y_fldN (o := 0) 99 rfl (by kernel_rfl)) ?_; refine s_g rfl (y_load rfl rfl (hc (o := 99) (.tail _ (.head _)) (gA (k := 32) (i := 67) (by rw [List.length_map]; exact hk32) (by omega) (gA (k := 32) (i := 35) (by rw [List.length_map]; exact mk32) (by omega) (gA (k := 32) (i := 3) (by rw [List.length_map]; exact nk32) (by omega) (rfl)))))) ?_
        refine s_g rfl (y_lenE rfl hfr.choose_spec rfl) ?_; refine s_g rfl (y_geq rfl rfl) ?_; refine s_q rfl (y_pick0 rfl rfl) ?_; refine s_q rfl (y_assign rfl) ?_; refine s_n ?_; refine tk_condP rfl (fun ht24 => ?_) (fun ht24 => ?_)
        · skip
          refine s_r ?_; refine s_q rfl (y_assign rfl) ?_; refine s_n ?_; refine tk_retc ?_; refine tk_in_ret ?_; refine tk_then_ret ?_; refine tk_re 4 (I 8) (I ((checkR rs s.off cn r : Nat) : Int)) rfl (by rw [ck_8 (Classical.not_not.1 ht10) (fun q => by first | exact ht14 q.2 | exact hs4_2 q.1) (by first | exact .inl ⟨hs6_2, by omega⟩ | exact .inr (by omega))]; rfl) ?_
          exact tk_ret (()) (trivial) (.inl rfl) (r1 rfl rfl) (.cons _ (.cons_cons _ (.cons_cons _ (.cons _ (List.Sublist.refl _)))))
        · skip
          refine tk_skip ?_; refine tk_in_normal ?_; refine tk_then ?_; refine s_r ?_; refine s_q rfl (y_move rfl) ?_; refine s_q rfl (y_nilCheck rfl) ?_; refine s_q rfl (y_fldN (o := 0) 98 rfl (by kernel_rfl)) ?_; refine s_q rfl (y_load rfl rfl (hc (o := 98) (.tail _ (.head _)) (gA (k := 32) (i := 66) (by rw [List.length_map]; exact hk32) (by omega) (gA (k := 32) (i := 34) (by rw [List.length_map]; exact mk32) (by omega) (gA (k := 32) (i := 2) (by rw [List.length_map]; exact nk32) (by omega) (rfl)))))) ?_
          refine tk_act rfl ?_; refine tk_perm _ mv7 ?_; refine tk_perm _ mv7 ?_; refine tk_perm _ mv7 ?_; refine tk_perm _ mv7 ?_; refine a_callv [] _ rfl (by kernel_rfl) rfl (fun w' hw' => cread_spec (s := s) (cb := cb) (cn := cn) hok (St.pre hw')) rfl fun _ _ => ?_; refine s_q rfl (y_move rfl) ?_; refine s_q rfl (y_extract rfl rfl) ?_; refine s_q rfl (y_extract rfl rfl) ?_; refine s_q rfl (y_assign rfl) ?_
          refine s_q rfl (y_assign rfl) ?_; refine s_n ?_; refine tk_seq ?_; refine s_r ?_; refine s_q rfl (y_move rfl) ?_; refine tk_qs rfl rfl rfl (y_eql rfl rfl) (fun hs9_1 => ?_) (fun hs9_1 => ?_)
          · skip
            refine s_q rfl (y_move rfl) ?_; refine s_g rfl (y_move rfl) ?_; refine s_g rfl (y_move rfl) ?_; refine s_g rfl (y_nilCheck rfl) ?_; refine s_g rfl (y_fldN (o := 0) 99 rfl (by kernel_rfl)) ?_; refine s_g rfl (y_load rfl rfl (hc (o := 99) (.tail _ (.tail _ (.tail _ (.tail _ (.tail _ (.head _)))))) (gA (k := 32) (i := 67) (by rw [List.length_map]; exact hk32) (by omega) (gA (k := 32) (i := 35) (by rw [List.length_map]; exact mk32) (by omega) (gA (k := 32) (i := 3) (by rw [List.length_map]; exact nk32) (by omega) (rfl)))))) ?_
            refine s_g rfl (y_lenE rfl hfr.choose_spec rfl) ?_; refine s_g rfl (y_neq rfl rfl) ?_; refine s_q rfl (y_pick1 rfl rfl) ?_; refine s_n ?_; refine tk_condP rfl (fun ht59 => ?_) (fun ht59 => ?_)
            · skip
              refine tk_region ?_; refine s_q rfl (y_assign rfl) ?_; refine s_n ?_; refine s_r ?_; refine s_q rfl (y_move rfl) ?_; refine s_q rfl (y_assign rfl) ?_; refine s_n ?_; refine tk_retc ?_
              have hno : ¬ s.off = true := fun h => by rw [if_pos h] at hs9_1; omega
              refine tk_re 4 (I 12) (I ((checkR rs s.off cn r : Nat) : Int)) rfl (by rw [ck_12 (Classical.not_not.1 ht10) (fun q => by first | exact ht14 q.2 | exact hs4_2 q.1) (by omega) hno (by rw [if_neg hno] at ht59; exact ht59)]; rfl) ?_; refine tk_perm _ mv3 ?_; refine tk_perm _ mv3 ?_; refine tk_perm _ mv3 ?_; refine tk_perm _ mv3 ?_; refine tk_perm _ mv6 ?_; refine tk_perm _ mv6 ?_
              exact tk_ret (()) (trivial) (.inl rfl) (r1 rfl rfl) (.cons_cons _ (.cons_cons _ (.cons_cons _ (.cons_cons _ (.cons_cons _ (.cons_cons _ (List.nil_sublist _)))))))
            · skip
              refine tk_skip ?_; refine tk_then ?_; refine s_r ?_; refine s_q rfl (y_move rfl) ?_; refine s_q rfl (y_assign rfl) ?_; refine s_n ?_; refine tk_retc ?_
              have hno : ¬ s.off = true := fun h => by rw [if_pos h] at hs9_1; omega
              refine tk_re 4 (I (((if s.off = true then 9 else 0) : Nat) : Int)) (I ((checkR rs s.off cn r : Nat) : Int)) rfl (by rw [ck_0 (Classical.not_not.1 ht10) (fun q => by first | exact ht14 q.2 | exact hs4_2 q.1) (by omega) hno (by rw [if_neg hno] at ht59; exact Classical.not_not.1 ht59), if_neg hno]) ?_; refine tk_perm _ mv3 ?_; refine tk_perm _ mv3 ?_; refine tk_perm _ mv3 ?_; refine tk_perm _ mv3 ?_
              refine tk_perm _ mv6 ?_; refine tk_perm _ mv6 ?_
              exact tk_ret (()) (trivial) (.inl rfl) (r1 rfl rfl) (.cons_cons _ (.cons_cons _ (.cons_cons _ (.cons_cons _ (.cons_cons _ (.cons_cons _ (List.nil_sublist _)))))))
          · skip
            refine s_q rfl (y_move rfl) ?_; refine tk_gno rfl rfl rfl ?_; refine tk_gno rfl rfl rfl ?_; refine tk_gno rfl rfl rfl ?_; refine tk_gno rfl rfl rfl ?_; refine tk_gno rfl rfl rfl ?_; refine tk_gno rfl rfl rfl ?_; refine tk_gno rfl rfl rfl ?_; refine s_q rfl (y_pick0 rfl rfl) ?_; refine s_n ?_; refine tk_cond0 rfl ?_; refine tk_skip ?_; refine tk_then ?_; refine s_r ?_; refine s_q rfl (y_move rfl) ?_
            refine s_q rfl (y_assign rfl) ?_; refine s_n ?_; refine tk_retc ?_
            have hof : s.off = true := Classical.not_not.1 fun h => by rw [if_neg h] at hs9_1; omega
            refine tk_re 4 (I (((if s.off = true then 9 else 0) : Nat) : Int)) (I ((checkR rs s.off cn r : Nat) : Int)) rfl (by rw [ck_9 (Classical.not_not.1 ht10) (fun q => by first | exact ht14 q.2 | exact hs4_2 q.1) (by omega) hof, if_pos hof]) ?_; refine tk_perm _ mv3 ?_; refine tk_perm _ mv3 ?_; refine tk_perm _ mv3 ?_; refine tk_perm _ mv3 ?_; refine tk_perm _ mv6 ?_; refine tk_perm _ mv6 ?_
            exact tk_ret (()) (trivial) (.inl rfl) (r1 rfl rfl) (.cons_cons _ (.cons_cons _ (.cons_cons _ (.cons_cons _ (.cons_cons _ (.cons_cons _ (List.nil_sublist _)))))))
end Go.Proofs.YtkkjfojgjmglpaaGreatDoor
set_option linter.unusedSimpArgs false
set_option linter.unusedVariables false
namespace Go.Proofs.YtkkjfojgjmglpaaGreatDoor
open Go Go.RowKit
set_option maxRecDepth 100000
end Go.Proofs.YtkkjfojgjmglpaaGreatDoor
set_option linter.unusedSimpArgs false
set_option linter.unusedVariables false
namespace Go.Proofs.YtkkjfojgjmglpaaGreatDoor
open Go Go.RowKit
set_option maxRecDepth 100000
end Go.Proofs.YtkkjfojgjmglpaaGreatDoor
set_option linter.unusedSimpArgs false
set_option linter.unusedVariables false
namespace Go.Proofs.YtkkjfojgjmglpaaGreatDoor.Cip
open Go Go.RowKit
set_option maxRecDepth 100000
theorem p6 (k : Nat) : 283 * 2 ^ (6 - k) < 65536 := by
  have h1 : 2 ^ (6 - k) ≤ 2 ^ 6 := Nat.pow_le_pow_right (by decide) (by omega)
  omega
attribute [local irreducible] plus
end Go.Proofs.YtkkjfojgjmglpaaGreatDoor.Cip
set_option linter.unusedSimpArgs false
set_option linter.unusedVariables false
namespace Go.Proofs.YtkkjfojgjmglpaaGreatDoor.Cip
end Go.Proofs.YtkkjfojgjmglpaaGreatDoor.Cip
set_option linter.unusedSimpArgs false
set_option linter.unusedVariables false
namespace Go.Proofs.YtkkjfojgjmglpaaGreatDoor.Cip
open Go Go.RowKit
set_option maxRecDepth 100000
abbrev II (u : UInt8) : Value := I (u.toNat : Int)
theorem dl {v m : Nat} (h : v < 256) : v / 2 ^ m < 4611686018427387904 := by have := Nat.div_le_self v (2 ^ m); omega
theorem xl {a b : Nat} (ha : a < 4611686018427387904) (hb : b < 4611686018427387904) : a ^^^ b < 4611686018427387904 := xor_lt 62 ha hb
theorem kcell {v : Value} {W : List UInt8} {o m : Nat} (ho : o = 1 + m) (hm : m < W.length) : (v :: W.map II)[o]? = some (II (W.getD m 0)) := by
  subst ho
  rw [Nat.add_comm, List.getElem?_cons_succ, List.getElem?_map, List.getElem?_eq_getElem hm, List.getD_eq_getElem?_getD, List.getElem?_eq_getElem hm]; rfl
theorem fcell (u : UInt8) : (fwd.map II)[u.toNat]? = some (II (sbox u)) := by rw [List.getElem?_map, sbox_at]; rfl
section
variable {P : Program} {n : Nat} {S : World → Prop} {L : Sl} {dst : Option Tmp} {rty : TypeId} {pos : String} {af : Array Edge} {gd : Option (Nat × Bool)} {t t' : TypeId} {x y : Operand}
end
attribute [local irreducible] expW keyW tv
end Go.Proofs.YtkkjfojgjmglpaaGreatDoor.Cip
set_option linter.unusedSimpArgs false
set_option linter.unusedVariables false
namespace Go.Proofs.YtkkjfojgjmglpaaGreatDoor.Cip
open Go Go.RowKit
set_option maxRecDepth 100000
attribute [local irreducible] turn plus keyW hideL
/-- the reference's key, as it lies in memory -/
def RK (w : World) (kb bb : Nat) (K : List UInt8) : Prop := w.cell? ⟨kb, 0, none⟩ = some (.slice (some ⟨bb, 0, none⟩) 256 256) ∧ (∀ m, m < 240 → w.cell? ⟨kb, 1 + m, none⟩ = some (II (K.getD m 0))) ∧ ∀ u : UInt8, w.cell? ⟨bb, u.toNat, none⟩ = some (II (sbox u))
end Go.Proofs.YtkkjfojgjmglpaaGreatDoor.Cip
set_option linter.unusedSimpArgs false
set_option linter.unusedVariables false
namespace Go.Proofs.YtkkjfojgjmglpaaGreatDoor.Cip
open Go Go.RowKit
set_option maxRecDepth 100000
attribute [local irreducible] turn plus keyW hideL
theorem RK.of {w : World} {kb bb : Nat} {K : List UInt8} (h1 : (cel kb (.slice (some ⟨bb, 0, none⟩) 256 256 :: K.map II) 231).holds w) (h2 : (cel bb (fwd.map II) 3).holds w) (hK : K.length = 240) : RK w kb bb K :=
  ⟨cel_cell h1 rfl, fun m hm => cel_cell h1 (kcell (m := m) rfl (by omega)), fun u => cel_cell h2 (fcell u)⟩
end Go.Proofs.YtkkjfojgjmglpaaGreatDoor.Cip
set_option linter.unusedSimpArgs false
set_option linter.unusedVariables false
namespace Go.Proofs.YtkkjfojgjmglpaaGreatDoor
open Go Go.RowKit
set_option maxRecDepth 100000
attribute [local irreducible] hidL markL sealL sealF keyedL Cip.keyW Cip.hideL
end Go.Proofs.YtkkjfojgjmglpaaGreatDoor
set_option linter.unusedSimpArgs false
set_option linter.unusedVariables false
namespace Go.Proofs.YtkkjfojgjmglpaaGreatDoor
open Go Go.RowKit
set_option maxRecDepth 100000
attribute [local irreducible] sumL keyedL hexL
def rg (n k : UInt8) : List UInt8 := [n, k, 0, 0, 0, 0, 0, 0, 0, 0, 0, 0, 0, 0, 0, 0, 0, 0, 0, 0, 0, 0, 0, 0, 0, 0, 0, 0, 0, 0, 0, 0]
@[simp] theorem rg_len {n k : UInt8} : (rg n k).length = 32 := rfl
end Go.Proofs.YtkkjfojgjmglpaaGreatDoor
set_option linter.unusedSimpArgs false
set_option linter.unusedVariables false
namespace Go.Proofs.YtkkjfojgjmglpaaGreatDoor
open Go Go.RowKit
set_option maxRecDepth 100000
attribute [local irreducible] sumL keyedL hexL
theorem texts_succ {l : List (List UInt8)} {i : Nat} (h : i < l.length) : (l.take (i + 1)).flatMap textL = (l.take i).flatMap textL ++ textL (l.getD i []) := by
  rw [← take_snoc (d := []) h, List.flatMap_append]; simp
theorem texts_pre {l : List (List UInt8)} (i : Nat) : ((l.take i).flatMap textL).length ≤ (l.flatMap textL).length := by
  have h : l.flatMap textL = (l.take i).flatMap textL ++ (l.drop i).flatMap textL := by rw [← List.flatMap_append, List.take_append_drop]
  rw [h, List.length_append]; omega
theorem gtext_spec {ob : Nat} {sv v : Value} {b : List UInt8} {l : List (List UInt8)} {w : World} (hn : Ro (Fs [cel ob [v, I 0] 204, ownB v b 5]) w (rd sv (l.map Str))) (h17 : ∀ s ∈ l, s.length ≤ 131072) (hnl : l.length < 1000000) (hb : b.length + (l.flatMap textL).length < 109951162777) (hh : Pre w [cel ob [v, I 0] 204, ownB v b 5]) :
    Spec Tryz.prog 54 [.pointer (some ⟨ob, 0, none⟩), sv] w [cel ob [v, I 0] 204, ownB v b 5] (fun _ : Value => True) (fun _ => .pointer (some ⟨ob, 0, none⟩)) (fun x => [cel ob [x, I 0] 204, ownB x (b ++ l.flatMap textL) 5]) := by
  refine spec_of (n := 44) Tryz.func54 rfl rfl hh.1 hh.2 rfl ?_; refine tk_own1 (.tail _ (.head _)) fun hfv => ?_; refine s_r ?_; refine s_q rfl (y_assign rfl) ?_; refine s_n ?_; refine tk_seq ?_; refine s_r ?_; refine s_q rfl (y_move rfl) ?_; refine s_q rfl (y_lenRN (n' := l.length) rfl hn.1 rfl (by first | rfl | (rw [List.length_map]; omega) | simp)) ?_; refine s_q rfl (y_move rfl) ?_; refine s_n ?_
  refine tk_block ?_; refine tk_H [cel ob ([v, I 0]) 204, own v ((b ++ (l.take 0).flatMap textL).length) ((b ++ (l.take 0).flatMap textL).map B) 5 1] (congrArg (fun z_ => [cel ob ([v, I 0]) 204, z_]) (show own v b.length (b.map B) 5 1 = own v ((b ++ (l.take 0).flatMap textL).length) ((b ++ (l.take 0).flatMap textL).map B) 5 1 from ownM_cast (by simp))) ?_; refine tk_loop (X := Nat × Value) (fun (i, va) => i ≤ l.length) (fun (i, va) => [(0, .pointer (some ⟨ob, 0, none⟩)), (4, .pointer none), (7, sv), (8, I ((l.length : Nat) : Int)), (9, I ((i : Nat) : Int))]) (fun (i, va) => [cel ob ([va, I 0]) 204, own va ((b ++ (l.take i).flatMap textL).length) ((b ++ (l.take i).flatMap textL).map B) 5 1]) (fun (i, va) => l.length - i) ((0, v)) (Nat.zero_le _) (by repeat (first | exact trivial | refine ⟨rfl, ?_⟩)) ((List.Sublist.refl _)) ?_
  rintro ⟨i, va⟩ hI
  try dsimp only at hI ⊢
  have hfl := texts_pre (l := l) i
  refine tk_own1 (.tail _ (.head _)) fun hfa => ?_; refine s_r ?_; refine s_q rfl (y_lss rfl rfl) ?_; refine s_n ?_; refine tk_seq ?_; refine tk_condP rfl (fun ht10 => ?_) (fun ht10 => ?_)
  · skip
    have hsl := h17 _ (getD_mem (d := []) (l := l) (i := i) (by omega))
    have hn9 := numL_len 8 (n := (l.getD i []).length) (by omega)
    have hfl2 := texts_pre (l := l) (i + 1)
    have hfl3 : ((l.take i).flatMap textL).length + ((numL (l.getD i []).length).length + (l.getD i []).length) = ((l.take (i + 1)).flatMap textL).length := by rw [texts_succ (by omega)]; simp only [List.length_append, textL]
    refine tk_skip ?_; refine tk_then ?_; refine tk_seq ?_; refine tk_block ?_; refine s_r ?_; refine s_q rfl (y_ixR (j := i) rfl rfl hn.1 lenP (by kernel_rfl)) ?_; refine s_q rfl (y_load rfl rfl (fun w hw => ((fun w hw => Ro.rd hn hw) w hw).cell (gM (d := []) lenP))) ?_; refine s_q rfl (y_assign rfl) ?_; refine s_n ?_; refine tk_block ?_; refine s_r ?_; refine s_q rfl (y_move rfl) ?_; refine s_q rfl (y_pnil rfl rfl rfl) ?_
    refine s_q rfl (y_move rfl) ?_; refine s_g rfl (y_move rfl) ?_; refine s_g rfl (y_nilCheck rfl) ?_; refine s_g rfl (y_fldN (o := 0) 1 rfl (by kernel_rfl)) ?_; refine s_g rfl (y_load rfl rfl (hc (o := 1) (.head _) (rfl))) ?_; refine s_g rfl ((y_neq rfl rfl).cast (bool_f (by decide))) ?_; refine s_q rfl (y_pick0 rfl rfl) ?_; refine s_q rfl (y_assign rfl) ?_; refine s_n ?_; refine tk_cond0 rfl ?_
    refine s_r ?_; refine s_q rfl (y_move rfl) ?_; refine s_q rfl (y_lenStr (l := l.getD i []) rfl rfl) ?_; refine tk_qe (.bool false) rfl rfl rfl (y_gtr rfl rfl) (bool_f (by omega)) ?_; refine s_q rfl (y_assign rfl) ?_; refine s_n ?_; refine tk_cond0 rfl ?_; refine s_r ?_; refine s_q rfl (y_move rfl) ?_; refine s_q rfl (y_move rfl) ?_; refine s_q rfl (y_lenStr (l := l.getD i []) rfl rfl) ?_; refine tk_act rfl ?_; refine a_callv [] _ rfl (by kernel_rfl) rfl (fun w' hw' => gnum1_spec (ob := ob) (v := va) (b := b ++ (l.take i).flatMap textL) (n := (l.getD i []).length) lenP lenP (St.pre hw')) rfl fun v16 _ => ?_
    refine s_n ?_; refine tk_region ?_; refine s_q rfl (y_move rfl) ?_; refine s_q rfl (y_move rfl) ?_; refine s_q rfl (y_nilCheck rfl) ?_; refine s_q rfl (y_fld0 (o := 0) rfl (by kernel_rfl)) ?_; refine s_q rfl (y_load rfl rfl (hc (o := 0) (.head _) (rfl))) ?_; refine s_q rfl (y_move rfl) ?_; refine tk_act rfl ?_; refine a_appStr (H1 := [_]) (l := (b ++ (l.take i).flatMap textL) ++ numL ((l.getD i []).length)) (m := l.getD i []) rfl rfl EL42 Tryz.underlying9 rfl rfl ⟨lenP, lenP⟩ fun v23 => ?_
    refine tk_own1 (.tail _ (.head _)) fun hfv23 => ?_; refine s_q rfl (y_nilCheck rfl) ?_; refine s_q rfl (y_fld0 (o := 0) rfl (by kernel_rfl)) ?_; refine tk_act rfl ?_; refine a_storeE (H1 := []) (o := 0) (v := v23) (cs' := [v23, I 0]) rfl rfl (by kernel_rfl) (RdS.one hfv23.choose_spec) rfl (by first | (simp; done) | (simp; omega)) (rfl) ?_; refine tk_nil ?_; refine tk_in_normal ?_; refine tk_in_normal ?_
    refine tk_then ?_; refine tk_region ?_; refine s_q rfl (y_addN (a := i) (b := 1) rfl rfl (by omega)) ?_; refine s_q rfl (y_move rfl) ?_; refine tk_nil ?_; refine tk_H [cel ob ([v23, I 0]) 204, own v23 ((b ++ (l.take (i + 1)).flatMap textL).length) ((b ++ (l.take (i + 1)).flatMap textL).map B) 5 1] (congrArg (fun z_ => [cel ob ([v23, I 0]) 204, z_]) (show own v23 ((((b ++ (l.take i).flatMap textL) ++ numL ((l.getD i []).length)) ++ (l.getD i [])).length) ((((b ++ (l.take i).flatMap textL) ++ numL ((l.getD i []).length)) ++ (l.getD i [])).map B) 5 1 = own v23 ((b ++ (l.take (i + 1)).flatMap textL).length) ((b ++ (l.take (i + 1)).flatMap textL).map B) 5 1 from ownM_cast (by rw [texts_succ (by omega)]; simp [textL]))) ?_
    exact tk_again ((i + 1, v23)) (by dsimp only; omega) (by dsimp only; omega) (by repeat (first | exact trivial | refine ⟨rfl, ?_⟩)) (List.Sublist.refl _)
  · skip
    refine tk_exit ?_; refine tk_then_exit ?_; refine tk_then_exit ?_; refine tk_in_hit ?_; refine tk_then ?_; refine s_r ?_; refine s_q rfl (y_move rfl) ?_; refine s_q rfl (y_assign rfl) ?_; refine s_n ?_; refine tk_retc ?_; refine tk_H [cel ob ([va, I 0]) 204, own va ((b ++ l.flatMap textL).length) ((b ++ l.flatMap textL).map B) 5 1] (congrArg (fun z_ => [cel ob ([va, I 0]) 204, z_]) (show own va ((b ++ (l.take i).flatMap textL).length) ((b ++ (l.take i).flatMap textL).map B) 5 1 = own va ((b ++ l.flatMap textL).length) ((b ++ l.flatMap textL).map B) 5 1 from ownM_cast (by rw [show i = l.length by omega, List.take_length]))) ?_
    exact tk_ret (va) (trivial) (.inl rfl) (r1 rfl rfl) (List.Sublist.refl _)
end Go.Proofs.YtkkjfojgjmglpaaGreatDoor
set_option linter.unusedSimpArgs false
set_option linter.unusedVariables false
namespace Go.Proofs.YtkkjfojgjmglpaaGreatDoor
open Go
structure Calm (s : Sh) : Prop where
  off : s.off = false
  left : s.left = -1
def Sh.tick (s : Sh) : Sh := { s with made := s.made + 1 }
theorem calm_tick {s : Sh} (h : Calm s) : Calm s.tick := ⟨h.off, h.left⟩
theorem calm_obs {s : Sh} {l : List Ob} (h : Calm s) : Calm (s.obsTo l) := ⟨h.off, h.left⟩
theorem spend_calm {s : Sh} (h : Calm s) : s.spend = (s.tick, 0) := by
  rw [spend_neg (by rw [h.off]; decide) (by rw [h.left]; decide) (by rw [h.left]; decide)]; rfl
theorem change_calm {s : Sh} {d : Sh → Sh} (h : Calm s) : s.change 0 d = (d s.tick, 0) := by
  rw [change_ok (by rw [h.off]; decide) rfl (by rw [spend_calm h]), spend_calm h]
theorem change_calmNo {s : Sh} {c : Nat} {d : Sh → Sh} (h : Calm s) (hc : ¬ c = 0) : s.change c d = (s, c) := change_no (by rw [h.off]; decide) hc
theorem hex_sign {l : List UInt8} : ∀ c ∈ hexL l, signB c = true := by
  have h : ∀ n, n < 16 → signB (digL.getD n 0) = true := by decide +kernel
  intro c hc
  obtain ⟨x, _, hx⟩ := List.mem_flatMap.1 hc
  have hx2 := x.toNat_lt
  simp only [List.mem_cons, List.not_mem_nil, or_false] at hx
  rcases hx with rfl | rfl
  · exact h _ (by omega)
  · exact h _ (by omega)
theorem drL_nm {nm : List UInt8} : isNm (drL nm) := by
  have hl : (dgL nm).length = 40 := by unfold dgL; rw [List.length_take, hexL_len, sumL_len]; rfl
  refine ⟨?_, ?_, ?_⟩
  · rw [List.all_eq_true]
    intro c hc
    unfold drL at hc
    rcases List.mem_append.1 hc with hc | hc
    · have : ∀ c ∈ ([116, 47] : List UInt8), signB c = true := by decide
      exact this c hc
    · exact hex_sign c (List.mem_of_mem_take hc)
  · unfold drL; rw [List.length_append, hl]; simp
  · unfold drL; rw [List.length_append, hl]; simp
theorem drL_ne {nm mm : List UInt8} {k : Nat} (h : nm = nameR k) : drL mm ≠ nm := by
  subst h
  intro e
  have := congrArg (fun l => l.getD 0 0) e
  have h1 : (drL mm).getD 0 0 = 116 := rfl
  have h2 : (nameR k).getD 0 0 = 115 := rfl
  rw [h1, h2] at this
  exact absurd this (by decide)
theorem del_not {l : List Ob} {k : List UInt8} (h : ¬ hasO l k) : delO l k = l := List.filter_eq_self.2 (fun o ho => by
  have : o.name ≠ k := fun e => h (by unfold hasO; rw [← e]; exact List.mem_map.2 ⟨o, ho, rfl⟩)
  simp [this])
theorem del_snoc {l : List Ob} {o : Ob} (h : ¬ hasO l o.name) : delO (l ++ [o]) o.name = l := by
  unfold delO
  rw [List.filter_append]
  have := del_not h
  unfold delO at this
  rw [this]; simp
theorem lk_snoc {l : List Ob} {o : Ob} (h : ¬ hasO l o.name) : lkO (l ++ [o]) o.name = o := by
  unfold lkO
  rw [List.find?_append, List.find?_eq_none.2 (fun x hx => by
    have : x.name ≠ o.name := fun e => h (by unfold hasO; rw [← e]; exact List.mem_map.2 ⟨x, hx, rfl⟩)
    simp [this])]
  simp
theorem sync_snoc {l : List Ob} {n b : List UInt8} {v : Value} {f : Bool} (h : ¬ hasO l n) : syncO (l ++ [⟨n, v, b, f⟩]) n = l ++ [⟨n, v, b, true⟩] := by
  unfold syncO
  rw [List.map_append]
  have : l.map (fun o => if o.name = n then { o with sure := true } else o) = l := by
    conv => rhs; rw [← List.map_id l]
    refine List.map_congr_left (fun o ho => ?_)
    have : o.name ≠ n := fun e => h (by unfold hasO; rw [← e]; exact List.mem_map.2 ⟨o, ho, rfl⟩)
    rw [if_neg this]; rfl
  rw [this]; simp
theorem has_snoc {l : List Ob} {o : Ob} {n : List UInt8} : hasO (l ++ [o]) n ↔ hasO l n ∨ o.name = n := by
  unfold hasO
  rw [List.map_append, List.mem_append]
  simp [eq_comm]
/-- published -/
def Sh.with4 (s : Sh) (nm : List UInt8) (v : Value) (b : List UInt8) : Sh := ⟨s.obs ++ [⟨nm, v, b, true⟩], s.left, s.off, s.made + 3, s.room⟩
theorem with4_calm {s : Sh} {nm b : List UInt8} {v : Value} (h : Calm s) : Calm (s.with4 nm v b) := ⟨h.off, h.left⟩
theorem pub_calm {s : Sh} {nm b : List UInt8} {v : Value} (h : Calm s) (hn : isNm nm) (h1 : ¬ hasO s.obs nm) (h2 : ¬ hasO s.obs (drL nm)) (h3 : drL nm ≠ nm) (hb : b.length ≤ 1048576) (hr : ¬ (s.room - (sumO s.obs : Int) < (b.length : Int))) (hl : s.obs.length < 2000) : s.pub nm v b = (s.with4 nm v b, 0) := by
  have e1 : s.del (drL nm) = (s, 6) := by rw [Sh.del, delC, if_pos h2, change_calmNo h (by decide)]
  have e2 : s.put (drL nm) v b = (s.tick.obsTo (s.obs ++ [⟨drL nm, v, b, false⟩]), 0) := by
    have : putC s (drL nm) b = 0 := by rw [putC, if_neg (fun q => q drL_nm), if_neg h2, if_neg (by omega), if_neg (fun q => q.elim hr (by omega))]
    rw [Sh.put, this, change_calm h]; rfl
  have c2 : Calm (s.tick.obsTo (s.obs ++ [⟨drL nm, v, b, false⟩])) := calm_obs (calm_tick h)
  have e3 : (s.tick.obsTo (s.obs ++ [⟨drL nm, v, b, false⟩])).sync1 (drL nm) = (s.tick.tick.obsTo (s.obs ++ [⟨drL nm, v, b, true⟩]), 0) := by
    have e : (s.tick.obsTo (s.obs ++ [⟨drL nm, v, b, false⟩])).nudge = ((s.tick.obsTo (s.obs ++ [⟨drL nm, v, b, false⟩])).tick, 0) := by rw [Sh.nudge, change_calm c2]; rfl
    rw [sync1_ok (by rw [e]) (by rw [e]; exact has_snoc.2 (.inr rfl)), e]
    show ((Sh.obsTo _ (syncO (s.obs ++ [⟨drL nm, v, b, false⟩]) (drL nm))), 0) = _
    rw [sync_snoc h2]; rfl
  have c3 : Calm (s.tick.tick.obsTo (s.obs ++ [⟨drL nm, v, b, true⟩])) := calm_obs (calm_tick (calm_tick h))
  have e4 : (s.tick.tick.obsTo (s.obs ++ [⟨drL nm, v, b, true⟩])).ren (drL nm) nm = (s.with4 nm v b, 0) := by
    have : renC (s.tick.tick.obsTo (s.obs ++ [⟨drL nm, v, b, true⟩])) (drL nm) nm = 0 := by
      rw [renC, if_neg (fun q => q hn), if_neg (fun q => q (has_snoc.2 (.inr rfl))), if_neg (fun q => ?_)]
      rcases has_snoc.1 q.1 with q | q
      · exact h1 q
      · exact h3 q
    rw [Sh.ren, this, change_calm c3]
    have d1 := del_snoc (o := ⟨drL nm, v, b, true⟩) h2
    have d2 := lk_snoc (o := ⟨drL nm, v, b, true⟩) h2
    show (Sh.obsTo _ (delO (s.obs ++ [⟨drL nm, v, b, true⟩]) (drL nm) ++ [nameTo (lkO (s.obs ++ [⟨drL nm, v, b, true⟩]) (drL nm)) nm]), 0) = _
    dsimp only at d1 d2
    rw [d1, d2]
    unfold Sh.with4 Sh.obsTo Sh.tick nameTo
    dsimp only
    rw [show s.made + 1 + 1 + 1 = s.made + 3 by omega]
  rw [pub_d3 hn (by rw [e1]; exact fun q => q.2 rfl) (by rw [e1]; dsimp only; rw [e2]), e1]
  dsimp only
  rw [e2]; dsimp only
  rw [e3, pubK_3 rfl (by dsimp only; rw [e4])]
  dsimp only
  rw [e4]
theorem raise_calm {s : Sh} {cn m : Int} (h : Calm s) (h1 : cn < m) (h2 : m ≤ 4611686018427387903) : raiseF s cn m = (s.tick, m, 0) := by
  have e : s.nudge = (s.tick, 0) := by rw [Sh.nudge, change_calm h]; rfl
  rw [raiseF, if_neg (by rw [h.off]; decide), if_neg (by omega), e, if_neg (fun q => q rfl)]
end Go.Proofs.YtkkjfojgjmglpaaGreatDoor

/- Owned slices seen as rows; slice literals of three and of none. Own work for this project; no program in sight. -/
import Derived.Test.YtfofkjajlfphjaaEngL
namespace Go.Proofs.Ytfofkjajlfphjaa
open Go Go.RowKit
section
variable {c : Cx} {L : Sl} {H : List Res} {K : Act → World → Prop}
theorem dj_two {i j : Nat} {r s : Res} {w : World} (h : St c w H) (hij : i ≠ j) (hi : H[i]? = some r) (hj : H[j]? = some s) : ∀ k, r.fp k → ¬ s.fp k := fun k hr hs => by
  rcases Nat.lt_or_gt_of_ne hij with h1 | h1
  · exact dj_at h.dj h1 hi hj k hr hs
  · exact dj_at h.dj h1 hj hi k hs hr
/-- an owned slice and a row lie apart -/
theorem own_ne {w : World} {v : Value} {n : Nat} {xs cs : List Value} {e T : TypeId} {b : Nat} (h : St c w H) (i j : Nat) (hij : i ≠ j) (hi : H[i]? = some (own v n xs e 1)) (hj : H[j]? = some (cel b cs T)) : xs = [] ∨ (adOf v).block ≠ b := by
  have hm : (own v n xs e 1).holds w := h.mem (List.mem_of_getElem? hi)
  rcases own_cells hm with ⟨_, _, h0⟩ | ⟨g, cap, rfl, _⟩
  · exact .inl h0
  · exact .inr fun e1 => dj_two h hij hi hj g rfl e1
theorem tk_ownCel {H1 H2 : List Res} {v : Value} {n : Nat} {xs : List Value} {e : TypeId} (hH : H = H1 ++ own v n xs e 1 :: H2) (hx : xs ≠ [])
    (h : ∀ g cap rest, v = .slice (some ⟨g, 0, none⟩) n cap → n ≤ cap → TK c K L (H1 ++ cel g (xs ++ rest) e :: H2)) : TK c K L H := fun a w ha hw => by
  subst hH
  have hm : (own v n xs e 1).holds w := hw.mem (by simp)
  obtain ⟨h1, h2⟩ := hm
  rcases h2 with ⟨rfl, rfl⟩ | ⟨g, cap, cur, fr, rfl, hg, hf, hc, hcm, hcs, ht⟩
  · exact (hx (List.eq_nil_of_length_eq_zero (by simpa using h1))).elim
  · refine h g cap (cur.toList.drop (n * 1)) rfl hc a w ha ?_
    have e1 : xs ++ cur.toList.drop (n * 1) = cur.toList := by rw [← ht, List.take_append_drop]
    refine (St.turn (r := own _ n xs e 1) (N := [cel g (xs ++ cur.toList.drop (n * 1)) e]) hw (Fo.refl _ _) ⟨⟨fr, by rw [e1]; simpa using hg, by rw [e1]; simpa using hf⟩, trivial⟩ ⟨fun _ _ h => h, trivial⟩ (fun k hk => ?_)).perm perm_mid
    rcases hk with hk | hk
    · left; show some g = some k
      rw [show k = g from hk]
    · exact hk.elim
theorem tk_celOwn {H1 H2 : List Res} {g n : Nat} {cs : List Value} {e : TypeId} (hH : H = H1 ++ cel g cs e :: H2) (hn : n ≤ cs.length) (hm : cs.length ≤ maxLen)
    (h : TK c K L (H1 ++ own (.slice (some ⟨g, 0, none⟩) n cs.length) n (cs.take n) e 1 :: H2)) : TK c K L H := fun a w ha hw => by
  subst hH
  obtain ⟨fr, hb, hf⟩ := hw.mem (r := cel g cs e) (by simp)
  refine h a w ha ((St.turn (r := cel g cs e) (N := [own (.slice (some ⟨g, 0, none⟩) n cs.length) n (cs.take n) e 1]) hw (Fo.refl _ _) ⟨⟨by simp; omega, .inr ⟨g, cs.length, cs.toArray, fr, rfl, hb, by simpa using hf, hn, hm, by simp, by simp⟩⟩, trivial⟩ ⟨fun _ _ h => h, trivial⟩ (fun k hk => ?_)).perm perm_mid)
  rcases hk with hk | hk
  · left; simp [own, Value.ownBlock] at hk; exact hk.symm
  · exact hk.elim
end
section
variable {c : Cx} {L : Sl} {H : List Res} {P : Program} {Q : Exit → Act → World → Prop} {K : Act → World → Prop} {d : Nat} {rty : TypeId} {pos : String} {af : Array Edge} {gd : Option (Nat × Bool)} {t t' : TypeId} {x y : Operand} {v u v0 v1 v2 : Value}
theorem run_slit3 {w : World} {e : TypeId} {bytes : Nat} (he : elB P t e 1 bytes) (h0 : v0.oneCell' = true) (h1 : v1.oneCell' = true) (h2 : v2.oneCell' = true) :
    (Instr.buildSlice t 3 #[(0, v0), (1, v1), (2, v2)]).run P w = .ok (.slice (some ⟨w.heap.size, 0, none⟩) 3 3) { w with heap := w.heap.push (.cells [v0, v1, v2].toArray e) } := by
  obtain ⟨ht, i, z, hi, hz, hzs, hs, _, _⟩ := he
  have c0 : v0.cells = #[v0] := by cases v0 <;> first | rfl | simp [Value.oneCell'] at h0
  have c1 : v1.cells = #[v1] := by cases v1 <;> first | rfl | simp [Value.oneCell'] at h1
  have c2 : v2.cells = #[v2] := by cases v2 <;> first | rfl | simp [Value.oneCell'] at h2
  have e3 : Array.range 3 = #[0, 1, 2] := rfl
  simp [Instr.buildSlice, underlying, ht, Go.sizeOf, typeInfo, hi, hs, zeroValue, hz, Instr.fill, c0, c1, c2, newRow, e3]
theorem a_slit3 {o0 o1 o2 : Operand} {e : TypeId} {bytes : Nat} (hx0 : ev L o0 = some v0) (hx1 : ev L o1 = some v1) (hx2 : ev L o2 = some v2) (h0 : v0.oneCell' = true) (h1 : v1.oneCell' = true) (h2 : v2.oneCell' = true) (he : elB P t e 1 bytes) (hn : Nat.blt d c.n = true)
    (h : ∀ b, TK c K ((d, .slice (some ⟨b, 0, none⟩) 3 3) :: L) (cel b [v0, v1, v2] e :: H)) :
    TK c (fun a w => (⟨some d, .buildSlice t 3 #[(0, o0), (1, o1), (2, o2)], rty, pos, af, gd⟩ : Oper).wp P a w K Q) L H :=
  a_slit (xs := [(0, o0), (1, o1), (2, o2)]) (vs := [(0, v0), (1, v1), (2, v2)]) (by simp [evp, hx0, hx1, hx2]) hn (fun _ => run_slit3 he h0 h1 h2) h
theorem run_slit0 {w : World} {e : TypeId} {bytes : Nat} (he : elB P t e 1 bytes) :
    (Instr.buildSlice t 0 #[]).run P w = .ok (.slice (some ⟨w.heap.size, 0, none⟩) 0 0) { w with heap := w.heap.push (.cells ([] : List Value).toArray e) } := by
  obtain ⟨ht, i, _, hi, _, _, _, _, _⟩ := he
  have e0 : Array.range 0 = #[] := rfl
  simp [Instr.buildSlice, underlying, ht, Go.sizeOf, typeInfo, hi, Instr.fill, newRow, e0]
theorem a_slit0 {e : TypeId} {bytes : Nat} (he : elB P t e 1 bytes) (hn : Nat.blt d c.n = true)
    (h : ∀ v, TK c K ((d, v) :: L) (own v 0 [] e 1 :: H)) :
    TK c (fun a w => (⟨some d, .buildSlice t 0 #[], rty, pos, af, gd⟩ : Oper).wp P a w K Q) L H :=
  a_slit (xs := []) (vs := []) (cs := []) rfl hn (fun _ => run_slit0 he) (fun b => tk_celOwn (H1 := []) (n := 0) rfl (Nat.zero_le _) (by simp) (h _))
/-- a store into an owned slice -/
theorem a_storeOwn {H1 H2 : List Res} {n i : Nat} {xs : List Value} {e : TypeId} (hx : ev L x = some (.pointer (some ((adOf v).add i)))) (hy : ev L y = some u) (hone : u.oneCell' = true) (ht : szB P t 1 = true)
    (hH : H = H1 ++ own v n xs e 1 :: H2) (hi : i < n) (h : TK c K L (H1 ++ own v n (xs.set i u) e 1 :: H2)) :
    TK c (fun a w => (⟨none, .store t x y, rty, pos, af, gd⟩ : Oper).wp P a w K Q) L H := fun a w ha hw => by
  subst hH
  have h1 := ha.ev hx; have h2 := ha.ev hy
  have hm : (own v n xs e 1).holds w := hw.mem (by simp)
  obtain ⟨hl, h3⟩ := hm
  rcases h3 with ⟨rfl, rfl⟩ | ⟨g, cap, cur, fr, rfl, hg, hf, hc, hcm, hcs, htk⟩
  · omega
  · have had : (adOf (.slice (some ⟨g, 0, none⟩) n cap)).add i = ⟨g, i, none⟩ := by simp only [adOf]; rw [add_w, Nat.zero_add]
    rw [had] at h1
    have hu : u.cells.toList = [u] := by cases u <;> first | rfl | simp [Value.oneCell'] at hone
    have hus : u.cells.size = 1 := by have := congrArg List.length hu; simpa using this
    have hi2 : i < cur.size := by omega
    obtain ⟨w', h4, h5, h6⟩ := run_storeCells P g e [u] i 0 w cur.toList fr (by simpa using hg) (by simpa using hf) (by simpa using hone) (by simp; omega)
    have e1 : (execOp a.eval (⟨none, .store t x y, rty, pos, af, gd⟩ : Oper)).run P w = .ok .skip w' := by
      simp only [execOp, h1, h2, Instr.storeAt, Instr.sureAddr, storeVar]
      simp [szB_run ht, hus, hu, h4]
    change Oper.upon P _ a K Q ((execOp a.eval _).run P w)
    rw [e1, Oper.upon_skip]
    have e2 : cur.toList.take (i + 0) ++ [u] ++ cur.toList.drop (i + 0 + [u].length) = cur.toList.set i u := by
      rw [List.set_eq_take_append_cons_drop, if_pos (by simpa using hi2)]; simp
    rw [e2] at h5
    refine h _ _ (ha.putNone _) (St.perm (St.turn (N := [own (.slice (some ⟨g, 0, none⟩) n cap) n (xs.set i u) e 1]) hw (h6.mono (fun k hk => by show some g = some k; rw [hk])) ⟨⟨by simpa using hl, .inr ⟨g, cap, (cur.toList.set i u).toArray, fr, rfl, h5, by simpa using hf, hc, hcm, by simpa using hcs, ?_⟩⟩, trivial⟩ ⟨fun _ _ h => h, trivial⟩ ?_) perm_mid)
    · rw [← htk, List.take_set]
    · intro j hj
      rcases hj with hj | hj
      · exact .inl hj
      · exact hj.elim
end
end Go.Proofs.Ytfofkjajlfphjaa

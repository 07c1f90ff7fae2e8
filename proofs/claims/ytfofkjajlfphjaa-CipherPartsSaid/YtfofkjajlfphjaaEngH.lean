/- Slices of one's own: append, slice literals, strings and bytes. Own work for this project; no program in sight. -/
import Derived.Test.YtfofkjajlfphjaaEngG
import Derived.Laws.BytesArg
namespace Go.Proofs.Ytfofkjajlfphjaa
open Go Go.RowKit

/-- v is a slice of n elements (size cells each) that owns its row: nil, or at the head of block g; its cells are xs -/
def own (v : Value) (n : Nat) (xs : List Value) (e : TypeId) (size : Nat) : Res where
  fp k := v.ownBlock = some k
  holds w := xs.length = n * size ∧ ((v = .slice none 0 0 ∧ n = 0) ∨ ∃ g cap cur fr, v = .slice (some ⟨g, 0, none⟩) n cap ∧ w.heap[g]? = some (.cells cur e fr) ∧ nofr fr cur.size ∧ n ≤ cap ∧ cap ≤ maxLen ∧ cur.size = cap * size ∧ cur.toList.take (n * size) = xs)
  loc w w' h := by
    rintro ⟨h1, h2⟩
    refine ⟨h1, h2.imp id ?_⟩
    rintro ⟨g, cap, cur, fr, rfl, hg, r⟩
    exact ⟨g, cap, cur, fr, rfl, (h g rfl).trans hg, r⟩
  bnd w := by
    rintro ⟨_, h2⟩ k hk
    rcases h2 with ⟨rfl, _⟩ | ⟨g, cap, cur, fr, rfl, hg, _⟩
    · simp [Value.ownBlock] at hk
    · simp [Value.ownBlock] at hk; subst hk; exact (Array.getElem?_eq_some_iff.1 hg).1
abbrev ownB (v : Value) (l : List UInt8) (e : TypeId) : Res := own v l.length (l.map B) e 1

theorem own_nil {w : World} {e : TypeId} {size : Nat} : (own (.slice none 0 0) 0 [] e size).holds w := ⟨by simp, .inl ⟨rfl, rfl⟩⟩
/-- what an owned slice is: nil, or an address with its cells -/
theorem own_cells {v : Value} {n : Nat} {xs : List Value} {e : TypeId} {size : Nat} {w : World} (h : (own v n xs e size).holds w) :
    (v = .slice none 0 0 ∧ n = 0 ∧ xs = []) ∨ ∃ g cap, v = .slice (some ⟨g, 0, none⟩) n cap ∧ n ≤ cap ∧ cap ≤ maxLen ∧ ∀ j u, xs[j]? = some u → w.cell? ⟨g, j, none⟩ = some u := by
  obtain ⟨h1, h2⟩ := h
  rcases h2 with ⟨rfl, rfl⟩ | ⟨g, cap, cur, fr, rfl, hg, hf, hc, hm, hs, ht⟩
  · exact .inl ⟨rfl, rfl, List.eq_nil_of_length_eq_zero (by simpa using h1)⟩
  · refine .inr ⟨g, cap, rfl, hc, hm, fun j u hj => ?_⟩
    rw [cell_of_row w g j cur e fr hg]
    rw [← ht, List.getElem?_take] at hj
    split at hj
    · simpa using hj
    · cases hj

theorem run_append_room' {P : Program} {w : World} {t ty e : TypeId} {i : TypeInfo} (ht : P.underlying t = some (.slice e)) (hi : P.info? e = some i) {g n cap : Nat} {cur : Array Value} {fr : Nat × Nat} (hg : w.heap[g]? = some (.cells cur e fr)) (hf : nofr fr cur.size)
    {a : Addr} {m c : Nat} {news : List Value} (hl : news.length = m * i.size) (hnews : ∀ j u, news[j]? = some u → w.cell? (a.add j) = some u) (h1 : ∀ u ∈ news, u.oneCell' = true) (hroom : n + m ≤ cap) (hs : cur.size = cap * i.size) :
    ∃ w', (Builtin.append_ #[t, t] ty #[.slice (some ⟨g, 0, none⟩) n cap, .slice (some a) m c]).run P w = .ok (.slice (some ⟨g, 0, none⟩) (n + m) cap) w' ∧
      w'.heap[g]? = some (.cells (cur.toList.take (n * i.size) ++ news ++ cur.toList.drop (n * i.size + news.length)).toArray e fr) ∧ Fo (fun k => k = g) w w' := by
  have hfc := run_firstCells_some (P := P) w i.size m a m c news hl hnews
  have hfit : n * i.size + 0 + news.length ≤ cur.toList.length := by
    rw [hl, Array.length_toList, hs, Nat.add_zero, ← Nat.add_mul]; exact Nat.mul_le_mul_right _ hroom
  obtain ⟨w', h2, h3, h4⟩ := run_storeCells P g e news (n * i.size) 0 w cur.toList fr (by simpa using hg) (by simpa using hf) h1 hfit
  simp only [Nat.add_zero] at h3
  refine ⟨w', ?_, h3, h4⟩
  simp [Builtin.append_, run_underlying ht, sizeOf, typeInfo, hi, Builtin.lenOf, hroom, hfc, add_w, h2]

theorem run_app {P : Program} {w : World} {t ty e : TypeId} {i : TypeInfo} {z : Value} (ht : P.underlying t = some (.slice e)) (hi : P.info? e = some i) (hz : i.zero = some z) (hzs : z.cells.size = i.size) (_hsz : 0 < i.size)
    {v : Value} {n : Nat} {xs : List Value} (hown : (own v n xs e i.size).holds w) {a : Addr} {m c : Nat} {news : List Value} (hl : news.length = m * i.size) (hnews : ∀ j u, news[j]? = some u → w.cell? (a.add j) = some u) (h1 : ∀ u ∈ news, u.oneCell' = true)
    (h63 : n + m ≤ maxLen) (hbytes : (n + m) * i.bytes ≤ 140737488355328) :
    ∃ v' w', (Builtin.append_ #[t, t] ty #[v, .slice (some a) m c]).run P w = .ok v' w' ∧ (own v' (n + m) (xs ++ news) e i.size).holds w' ∧ Fo (fun k => v.ownBlock = some k) w w' ∧ (∀ k, v'.ownBlock = some k → v.ownBlock = some k ∨ w.heap.size ≤ k) := by
  have hsmall : n + m ≤ 9223372036854775807 := by simp only [maxLen] at h63; omega
  have hlen : (xs ++ news).length = (n + m) * i.size := by rw [List.length_append, hown.1, hl, Nat.add_mul]
  have grown : ∀ (old : Nat), old < n + m → ∀ E,
      (own (.slice (some ⟨w.heap.size, 0, none⟩) (n + m) (grownCap w (n + m) old e)) (n + m) (xs ++ news) e i.size).holds (w.drew.alloc (.cells (xs.toArray ++ news.toArray ++ Builtin.zeroCells z.cells (grownCap w (n + m) old e - (n + m))) e)) ∧
      Fo E w (w.drew.alloc (.cells (xs.toArray ++ news.toArray ++ Builtin.zeroCells z.cells (grownCap w (n + m) old e - (n + m))) e)) := by
    intro old ho E
    have hge := grownCap_ge w (n + m) old e
    have hcm : grownCap w (n + m) old e ≤ maxLen := grownCap_le_maxLen w (n + m) old e h63
    refine ⟨⟨hlen, .inr ⟨w.heap.size, _, _, (0, 0), rfl, heap_alloc_new w.drew _, .inr (Nat.le_refl _), hge, hcm, ?_, ?_⟩⟩, ⟨rfl, rfl, rfl, by simp, fun k hk _ => Below.heap_alloc w.drew _ k hk⟩⟩
    · simp only [Array.size_append, List.size_toArray, size_zeroCells, hzs, hown.1, hl, ← Nat.add_mul]
      congr 1
      omega
    · simp only [Array.toList_append, List.append_assoc]
      rw [← List.append_assoc, ← hlen]
      exact List.take_left
  obtain ⟨hx1, hx2⟩ := hown
  rcases hx2 with ⟨rfl, rfl⟩ | ⟨g, cap, cur, fr, rfl, hg, hf, hnc, hcm, hcs, htake⟩
  · have hx : xs = [] := List.eq_nil_of_length_eq_zero (by simpa using hx1)
    subst hx
    by_cases hm : m = 0
    · subst hm
      have hn : news = [] := List.eq_nil_of_length_eq_zero (by simpa using hl)
      subst hn
      refine ⟨.slice none 0 0, w, ?_, own_nil, Fo.refl _ _, fun k hk => .inl hk⟩
      simp [Builtin.append_, run_underlying ht, sizeOf, typeInfo, hi, Builtin.lenOf, Builtin.firstCells, loadCells, loadCellsFrom]
    · have hr := run_append_nil (P := P) w t ty e i z ht hi hz a m c news hl hnews (by omega) (by omega) (by have hb := hbytes; simp only [Nat.zero_add] at hb; omega)
      have hgr := grown 0 (by omega) (fun k => (Value.slice none 0 0).ownBlock = some k)
      simp only [Nat.zero_add, List.nil_append, Array.empty_append] at hgr ⊢
      exact ⟨_, _, hr, hgr.1, hgr.2, fun k hk => by simp [Value.ownBlock] at hk; exact .inr (by omega)⟩
  · by_cases hroom : n + m ≤ cap
    · obtain ⟨w', hr, hb, hfo⟩ := run_append_room' (ty := ty) ht hi hg hf hl hnews h1 hroom hcs
      have hmul : (n + m) * i.size ≤ cap * i.size := Nat.mul_le_mul_right _ hroom
      have hsz' : (cur.toList.take (n * i.size) ++ news ++ cur.toList.drop (n * i.size + news.length)).length = cur.size := by
        simp only [List.length_append, List.length_take, List.length_drop, Array.length_toList, hl, hcs]
        rw [Nat.add_mul] at hmul
        omega
      refine ⟨_, w', hr, ⟨hlen, .inr ⟨g, cap, _, fr, rfl, hb, ?_, hroom, hcm, ?_, ?_⟩⟩, hfo.mono (fun k hk => by simp [Value.ownBlock, hk]), fun k hk => .inl hk⟩
      · rw [List.size_toArray, hsz']; exact hf
      · rw [List.size_toArray, hsz']; exact hcs
      · rw [htake, ← hlen]
        exact List.take_left
    · have holds : ∀ j u, xs[j]? = some u → w.cell? ((⟨g, 0, none⟩ : Addr).add j) = some u := fun j u hj => by
        rcases own_cells (w := w) (e := e) ⟨hx1, .inr ⟨g, cap, cur, fr, rfl, hg, hf, hnc, hcm, hcs, htake⟩⟩ with ⟨h0, _⟩ | ⟨g', cap', h0, _, _, hc⟩
        · cases h0
        · cases h0; rw [add_w, Nat.zero_add]; exact hc j u hj
      have hr := run_append_grow (P := P) w t ty e i z ht hi hz ⟨g, 0, none⟩ n cap xs hx1 holds a m c news hl hnews (by omega) (by omega) (growslice_fits (by omega) hbytes)
      have hgr := grown cap (by omega) (fun k => (Value.slice (some ⟨g, 0, none⟩) n cap).ownBlock = some k)
      exact ⟨_, _, hr, hgr.1, hgr.2, fun k hk => by simp [Value.ownBlock] at hk; exact .inr (by omega)⟩

section
variable {c : Cx} {L : Sl} {H : List Res} {P : Program} {Q : Exit → Act → World → Prop} {K : Act → World → Prop} {d : Nat} {rty : TypeId} {pos : String} {af : Array Edge} {gd : Option (Nat × Bool)} {t t' : TypeId} {x y : Operand} {v : Value}

/-- an element type: its size in cells, in bytes, its zero -/
def elB (P : Program) (t e : TypeId) (size bytes : Nat) : Prop := P.underlying t = some (.slice e) ∧ ∃ i z, P.info? e = some i ∧ i.zero = some z ∧ z.cells.size = size ∧ i.size = size ∧ i.bytes = bytes ∧ 0 < size

/-- append to an owned slice of what can be read -/
theorem a_append {H1 H2 : List Res} {n m cp : Nat} {xs news : List Value} {e : TypeId} {size bytes : Nat} {ad : Addr} (hx : ev L x = some v) (hy : ev L y = some (.slice (some ad) m cp)) (he : elB P t e size bytes) (hn : Nat.blt d c.n = true)
    (hH : H = H1 ++ own v n xs e size :: H2) (hl : news.length = m * size) (hnews : ∀ w, St c w H → ∀ (j : Nat) (u : Value), news[j]? = some u → w.cell? (ad.add j) = some u) (h1 : ∀ u ∈ news, u.oneCell' = true)
    (hb : n + m ≤ 140737488355328 ∧ (n + m) * bytes ≤ 140737488355328) (h : ∀ v', TK c K ((d, v') :: L) (H1 ++ own v' (n + m) (xs ++ news) e size :: H2)) :
    TK c (fun a w => (⟨some d, .call { callee := .builtin .append, args := #[x, y], argTypes := #[t, t] }, rty, pos, af, gd⟩ : Oper).wp P a w K Q) L H := fun a w ha hw => by
  subst hH
  have h2 := ha.ev hx; have h3 := ha.ev hy
  obtain ⟨ht, i, z, hi, hz, hzs, rfl, rfl, hsz⟩ := he
  obtain ⟨v', w', hr, ho, hf, hk⟩ := run_app (ty := rty) (c := cp) ht hi hz hzs hsz (hw.mem (r := own v n xs e i.size) (by simp)) hl (hnews w hw) h1 (by simp only [maxLen]; omega) hb.2
  have e : (execOp a.eval (⟨some d, .call { callee := .builtin .append, args := #[x, y], argTypes := #[t, t] }, rty, pos, af, gd⟩ : Oper)).run P w = .ok (.value v') w' := by
    simp [execOp, resolve, h2, h3, invoke, builtin, hr]
  change Oper.upon P _ a K Q ((execOp a.eval _).run P w)
  rw [e, Oper.upon_value]
  exact h v' _ _ (ha.put hn _) ((St.turn (N := [own v' (n + m) (xs ++ news) _ _]) hw hf ⟨ho, trivial⟩ ⟨fun _ _ h => h, trivial⟩ (fun k h => by
    rcases h with h | h
    · exact hk k h
    · exact h.elim)).perm perm_mid)

/-- a slice literal -/
theorem a_slit {xs : List (Nat × Operand)} {vs : List (Nat × Value)} {e : TypeId} {m : Nat} {cs : List Value} (hx : evp L xs = some vs) (hn : Nat.blt d c.n = true)
    (hb : ∀ w, (Instr.buildSlice t m vs.toArray).run P w = .ok (.slice (some ⟨w.heap.size, 0, none⟩) m m) { w with heap := w.heap.push (.cells cs.toArray e) })
    (h : ∀ b, TK c K ((d, .slice (some ⟨b, 0, none⟩) m m) :: L) (cel b cs e :: H)) :
    TK c (fun a w => (⟨some d, .buildSlice t m xs.toArray, rty, pos, af, gd⟩ : Oper).wp P a w K Q) L H := fun a w ha hw => by
  have h1 := evp_map ha hx
  have e1 : (xs.toArray.map fun (p : Nat × Operand) => (p.1, a.eval p.2)) = vs.toArray := by rw [List.map_toArray, h1]
  have e : (execOp a.eval (⟨some d, .buildSlice t m xs.toArray, rty, pos, af, gd⟩ : Oper)).run P w = .ok (.value (.slice (some ⟨w.heap.size, 0, none⟩) m m)) { w with heap := w.heap.push (.cells cs.toArray e) } := by
    have e2 := hb w
    simp only [execOp]
    simp only [e1, Sem.run_bind, e2, Result.andThen]
    rfl
  change Oper.upon P _ a K Q ((execOp a.eval _).run P w)
  rw [e, Oper.upon_value]
  exact h w.heap.size _ _ (ha.put hn _) (hw.alloc cs.toArray _)

/-- bytes as a string -/
theorem foldl_push (l : List UInt8) : ∀ (r : ByteArray), (l.map fun b => (b.toNat : Int)).foldl (fun r n => r.push (UInt8.ofNat n.toNat)) r = ⟨r.data ++ l.toArray⟩ := by
  induction l with
  | nil => intro r; simp
  | cons b l ih =>
    intro r
    simp only [List.map_cons, List.foldl_cons, ih, Int.toNat_natCast, UInt8.ofNat_toNat]
    simp [ByteArray.push]
theorem run_str {P : Program} {w : World} {t t' e : TypeId} {ad : Addr} {cap : Nat} {l : List UInt8} (hs : P.underlying t = some (.slice e)) (he : P.underlying e = some (.int .u8)) (hd : P.underlying t' = some .string)
    (hl : ∀ j b, l[j]? = some b → w.cell? (ad.add j) = some (B b)) : (convert t t' (.slice (some ad) l.length cap)).run P w = .ok (Str l) w := by
  rw [run_convert_bytes_string w t t' e _ _ cap hs he hd]
  have := run_bytesToString (P := P) w ad l.length cap (l.map fun b => (b.toNat : Int)) ?_
  · rw [this, foldl_push]; simp [Str]
  · have h2 := run_loadCells_list (P := P) (w := w) ad (l.map B) (fun j u hj => by
      rw [List.getElem?_map] at hj
      cases hb : l[j]? with
      | none => rw [hb] at hj; cases hj
      | some b => rw [hb] at hj; cases hj; exact hl j b hb)
    rw [List.length_map] at h2
    rw [h2]; simp [List.map_map, Function.comp_def]
/-- the elements of a slice (one cell each) can be read -/
def RdS (w : World) (v : Value) (vs : List Value) : Prop := (v = .slice none 0 0 ∧ vs = []) ∨ ∃ ad cap, v = .slice (some ad) vs.length cap ∧ vs.length ≤ cap ∧ ∀ j u, vs[j]? = some u → w.cell? (ad.add j) = some u
abbrev RdB (w : World) (v : Value) (l : List UInt8) : Prop := RdS w v (l.map B)
def adOf : Value → Addr
  | .slice (some a) _ _ => a
  | _ => default
def lnOf : Value → Nat
  | .slice _ n _ => n
  | _ => 0
def cpOf : Value → Nat
  | .slice _ _ c => c
  | _ => 0
theorem RdS.cell {w : World} {vs : List Value} (h : RdS w v vs) {j : Nat} {u : Value} (hj : vs[j]? = some u) : w.cell? ((adOf v).add j) = some u := by
  rcases h with ⟨rfl, rfl⟩ | ⟨ad, cap, rfl, _, hc⟩
  · cases hj
  · exact hc j u hj
theorem RdS.form {w : World} {vs : List Value} (h : RdS w v vs) : (∃ ad, v = .slice ad vs.length (cpOf v) ∧ ∀ (j : Nat) (u : Value), vs[j]? = some u → ad = some (adOf v)) ∧ vs.length ≤ cpOf v := by
  rcases h with ⟨rfl, rfl⟩ | ⟨ad, cap, rfl, h1, hc⟩
  · exact ⟨⟨none, rfl, fun j u hj => by cases hj⟩, Nat.le_refl _⟩
  · exact ⟨⟨some ad, rfl, fun _ _ _ => rfl⟩, h1⟩
theorem RdS.one {w : World} {vs : List Value} (h : RdS w v vs) : v.oneCell' = true := by
  rcases h with ⟨rfl, _⟩ | ⟨ad, cap, rfl, _⟩ <;> rfl
theorem RdS.fo {w w' : World} {E : Nat → Prop} {vs : List Value} (h : RdS w v vs) (hf : Fo E w w') (hE : vs = [] ∨ ¬ E (adOf v).block) : RdS w' v vs := by
  rcases h with h | ⟨ad, cp, rfl, hc, hr⟩
  · exact .inl h
  · refine .inr ⟨ad, cp, rfl, hc, fun j u hj => hf.cell (hr j u hj) ?_⟩
    rcases hE with rfl | hE
    · cases hj
    · rw [show (ad.add j).block = ad.block by cases j <;> simp [Addr.add]]; exact hE
theorem y_lenR {n : Nat} {S : World → Prop} {dst : Option Tmp} {w0 : World} {vs : List Value} {e : TypeId} (hx : ev L x = some v) (hv : RdS w0 v vs) (ht : P.underlying t = some (.slice e)) :
    Y P n S L ⟨dst, .call { callee := .builtin .len, args := #[x], argTypes := #[t] }, rty, pos, af, gd⟩ (I vs.length) := by
  obtain ⟨⟨ad, hf, _⟩, _⟩ := hv.form
  rw [hf] at hx
  exact y_lenS hx ht
theorem y_ixR {n : Nat} {S : World → Prop} {dst : Option Tmp} {w0 : World} {vs : List Value} {j : Nat} {k : IntKind} (hx : ev L x = some v) (hy : ev L y = some (.int k (j : Int))) (hv : RdS w0 v vs) (hj : j < vs.length) (ht : sliB P t 1 = true) :
    Y P n S L ⟨dst, .indexAddr t x y, rty, pos, af, gd⟩ (.pointer (some ((adOf v).add j))) := by
  obtain ⟨⟨ad, hf, h2⟩, _⟩ := hv.form
  have h3 := h2 j vs[j] (List.getElem?_eq_getElem hj)
  rw [h3] at hf
  rw [hf] at hx
  refine (y_ixS hx hy ht (by omega)).cast ?_
  rw [Int.toNat_natCast, Nat.mul_one]
theorem hrd {vs : List Value} {j : Nat} {u : Value} (hv : RdS c.w0 v vs) (hj : vs[j]? = some u) (hE : ¬ c.E (adOf v).block) : ∀ w, St c w H → w.cell? ((adOf v).add j) = some u := fun _ hw =>
  hw.fr.cell (hv.cell hj) (by rw [show ((adOf v).add j).block = (adOf v).block by cases j <;> simp [Addr.add]]; exact hE)
theorem y_str {n : Nat} {S : World → Prop} {dst : Option Tmp} {e : TypeId} {l : List UInt8} (hx : ev L x = some v) (hs : P.underlying t = some (.slice e)) (he : P.underlying e = some (.int .u8)) (hd : P.underlying t' = some .string)
    (hl : ∀ w, S w → RdB w v l) : Y P n S L ⟨dst, .convert t t' x, rty, pos, af, gd⟩ (Str l) := fun a w ha hw => by
  have h1 := ha.ev hx
  rcases hl w hw with ⟨rfl, h0⟩ | ⟨ad, cap, rfl, _, hc⟩
  · have h0' : l = [] := List.map_eq_nil_iff.1 h0
    subst h0'
    have : (convert t t' (.slice none 0 0)).run P w = .ok (Str []) w := by
      rw [run_convert_bytes_string w t t' e _ _ _ hs he hd]; simp [Conv.bytesToString, Str]; rfl
    simp [execOp, h1, this]
  · have h2 := run_str (cap := cap) (l := l) hs he hd (fun j b hj => hc j _ (by rw [List.getElem?_map, hj]; rfl))
    rw [List.length_map] at h1
    simp [execOp, h1, h2]
theorem own_rdS {w : World} {n : Nat} {xs : List Value} {e : TypeId} (h : (own v n xs e 1).holds w) : RdS w v xs := by
  have hl : xs.length = n := by have := h.1; omega
  rcases own_cells h with ⟨rfl, _, h0⟩ | ⟨g, cap, rfl, hc, _, hr⟩
  · exact .inl ⟨rfl, h0⟩
  · refine .inr ⟨⟨g, 0, none⟩, cap, by rw [hl], by omega, fun j u hj => ?_⟩
    rw [add_w, Nat.zero_add]
    exact hr j _ hj
theorem own_rd {w : World} {l : List UInt8} {e : TypeId} (h : (ownB v l e).holds w) : RdB w v l := own_rdS h
theorem cel_rd {w : World} {b o m cp : Nat} {vs cs : List Value} {T : TypeId} (h : (cel b cs T).holds w) (hl : (cs.drop o).take vs.length = vs) (hm : m = vs.length) (hcp : m ≤ cp) : RdS w (.slice (some ⟨b, o, none⟩) m cp) vs := by
  subst hm
  refine .inr ⟨⟨b, o, none⟩, cp, rfl, hcp, fun j u hj => ?_⟩
  rw [add_w]
  have hlt : j < vs.length := (List.getElem?_eq_some_iff.1 hj).1
  refine cel_cell h ?_
  rw [← hl, List.getElem?_take, if_pos hlt, List.getElem?_drop] at hj
  exact hj

/-- a nil slice is owned -/
theorem tk_own0 (e : TypeId) (h : TK c K L (own (.slice none 0 0) 0 [] e 1 :: H)) : TK c K L H := fun a w ha hw =>
  h a w ha (St.new (N := [own (.slice none 0 0) 0 [] e 1]) hw (Fo.refl _ _) ⟨own_nil, trivial⟩ ⟨fun _ _ h => h, trivial⟩ (fun k hk => by
    rcases hk with hk | hk
    · cases hk
    · exact hk.elim))

/-! ### slice literals of one cell -/
theorem run_slit1 {w : World} {e : TypeId} {bytes : Nat} (he : elB P t e 1 bytes) (hone : v.oneCell' = true) :
    (Instr.buildSlice t 1 #[(0, v)]).run P w = .ok (.slice (some ⟨w.heap.size, 0, none⟩) 1 1) { w with heap := w.heap.push (.cells [v].toArray e) } := by
  obtain ⟨ht, i, z, hi, hz, hzs, hs, _, _⟩ := he
  have hv : v.cells = #[v] := by cases v <;> first | rfl | simp [Value.oneCell'] at hone
  simp [Instr.buildSlice, underlying, ht, Go.sizeOf, typeInfo, hi, hs, zeroValue, hz, Instr.fill, hv, newRow]
  have e : Array.range 1 = #[0] := rfl
  rw [e]; simp
theorem a_slit1 {o : Operand} {e : TypeId} {bytes : Nat} (hx : ev L o = some v) (hone : v.oneCell' = true) (he : elB P t e 1 bytes) (hn : Nat.blt d c.n = true)
    (h : ∀ b, TK c K ((d, .slice (some ⟨b, 0, none⟩) 1 1) :: L) (cel b [v] e :: H)) :
    TK c (fun a w => (⟨some d, .buildSlice t 1 #[(0, o)], rty, pos, af, gd⟩ : Oper).wp P a w K Q) L H :=
  a_slit (xs := [(0, o)]) (vs := [(0, v)]) (by simp [evp, hx]) hn (fun _ => run_slit1 he hone) h
theorem y_minI {n : Nat} {S : World → Prop} {dst : Option Tmp} {a b : Int} {ty : Array TypeId} (hx : ev L x = some (I a)) (hy : ev L y = some (I b)) :
    Y P n S L ⟨dst, .call { callee := .builtin .min, args := #[x, y], argTypes := ty }, rty, pos, af, gd⟩ (I (if b < a then b else a)) := fun q w ha _ => by
  have h1 := ha.ev hx; have h2 := ha.ev hy
  simp [execOp, resolve, h1, h2, invoke, builtin, Builtin.min_, Builtin.min2, List.foldlM]
end
end Go.Proofs.Ytfofkjajlfphjaa

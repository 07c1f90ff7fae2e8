/- Readable slices: parts of them, appending them; strings: their bytes. Own work for this project; no program in sight. -/
import Derived.Test.YtfofkjajlfphjaaEngI
namespace Go.Proofs.Ytfofkjajlfphjaa
open Go Go.RowKit
/-- s[lo:hi] -/
def cutR (v : Value) (lo hi : Nat) : Value := match v with
  | .slice ad _ cap => .slice (cutAd ad lo cap 1) (hi - lo) (cap - lo)
  | u => u
theorem add_add (a : Addr) (i j : Nat) : (a.add i).add j = a.add (i + j) := by
  unfold Addr.add
  split
  · subst_vars; simp
  · split
    · subst_vars; simp; omega
    · rw [if_neg (by omega)]; simp only []; congr 1; omega
theorem RdS.cut {w : World} {v : Value} {vs : List Value} {lo hi : Nat} (h : RdS w v vs) (hb : lo ≤ hi ∧ hi ≤ vs.length) : RdS w (cutR v lo hi) ((vs.drop lo).take (hi - lo)) := by
  have hl : ((vs.drop lo).take (hi - lo)).length = hi - lo := by simp; omega
  rcases h with ⟨rfl, rfl⟩ | ⟨ad, cap, rfl, hc, hr⟩
  · simp at hb
    obtain ⟨rfl, rfl⟩ : lo = 0 ∧ hi = 0 := by omega
    exact .inl ⟨by simp [cutR, cutAd], by simp⟩
  · simp only [cutR]
    by_cases e : cap = lo
    · refine .inr ⟨ad, cap - lo, by simp [cutAd, e, hl], by omega, fun j u hj => ?_⟩
      have := (List.getElem?_eq_some_iff.1 hj).1
      omega
    · refine .inr ⟨ad.add lo, cap - lo, by simp [cutAd, e, hl], by omega, fun j u hj => ?_⟩
      have hlt := (List.getElem?_eq_some_iff.1 hj).1
      rw [hl] at hlt
      rw [List.getElem?_take, if_pos hlt, List.getElem?_drop] at hj
      have hc1 := hr _ _ hj
      rw [add_add]; exact hc1
theorem add_block (a : Addr) (i : Nat) : (a.add i).block = a.block := by unfold Addr.add; split <;> rfl
theorem adOf_cut {v : Value} {lo hi : Nat} : (adOf (cutR v lo hi)).block = (adOf v).block := by
  cases v with
  | slice ad n cap =>
    cases ad with
    | none => simp [cutR, cutAd, adOf]
    | some a =>
      simp only [cutR, cutAd]
      split <;> simp [adOf, add_block]
  | _ => rfl
section
variable {P : Program} {n : Nat} {S : World → Prop} {L : Sl} {dst : Option Tmp} {rty : TypeId} {pos : String} {af : Array Edge} {gd : Option (Nat × Bool)}
  {t t' : TypeId} {x y z : Operand} {v u : Value} {w0 : World} {vs : List Value} {k k' : IntKind} {xl xh : Operand}
theorem y_cutR {il ih : Int} (lo hi : Nat) (hx : ev L x = some v) (hl : ev L xl = some (.int k il)) (hh : ev L xh = some (.int k' ih)) (hv : RdS w0 v vs) (ht : sliB P t 1 = true)
    (hb : il = (lo : Int) ∧ ih = (hi : Int) ∧ lo ≤ hi ∧ hi ≤ vs.length) : Y P n S L ⟨dst, .slice t x (some xl) (some xh) none, rty, pos, af, gd⟩ (cutR v lo hi) := by
  obtain ⟨⟨ad, hf, _⟩, h2⟩ := hv.form
  rw [hf] at hx
  obtain ⟨rfl, rfl, h3, h4⟩ := hb
  refine (y_cutS hx hl hh ht (by omega)).cast ?_
  rw [hf]; simp [cutR, cpOf]
theorem y_cutRh {ih : Int} (hi : Nat) (hx : ev L x = some v) (hh : ev L xh = some (.int k' ih)) (hv : RdS w0 v vs) (ht : sliB P t 1 = true)
    (hb : ih = (hi : Int) ∧ hi ≤ vs.length) : Y P n S L ⟨dst, .slice t x none (some xh) none, rty, pos, af, gd⟩ (cutR v 0 hi) := by
  obtain ⟨⟨ad, hf, _⟩, h2⟩ := hv.form
  rw [hf] at hx
  obtain ⟨rfl, h4⟩ := hb
  refine (y_cutSh hx hh ht (by omega)).cast ?_
  generalize cpOf v = cp at *
  have e : cutAd ad 0 cp 1 = ad := by
    unfold cutAd; split
    · rfl
    · cases ad <;> simp [Addr.add]
  rw [hf]; simp only [cutR]
  rw [e]; simp
theorem y_cutRl {il : Int} (lo : Nat) (hx : ev L x = some v) (hl : ev L xl = some (.int k il)) (hv : RdS w0 v vs) (ht : sliB P t 1 = true)
    (hb : il = (lo : Int) ∧ lo ≤ vs.length) : Y P n S L ⟨dst, .slice t x (some xl) none none, rty, pos, af, gd⟩ (cutR v lo vs.length) := by
  obtain ⟨⟨ad, hf, _⟩, h2⟩ := hv.form
  rw [hf] at hx
  obtain ⟨rfl, h4⟩ := hb
  refine (y_cutSl hx hl ht (by omega)).cast ?_
  rw [hf]; simp [cutR, cpOf]
/-- a string's byte -/
theorem y_ixT {l : List UInt8} {i : Nat} {ii : Int} (hx : ev L x = some (Str l)) (hy : ev L y = some (.int k ii)) (ht : P.underlying t = some .string) (hi : ii = (i : Int) ∧ i < l.length) :
    Y P n S L ⟨dst, .index t x y, rty, pos, af, gd⟩ (B (l.getD i 0)) := fun q w ha _ => by
  have h1 := ha.ev hx; have h2 := ha.ev hy
  obtain ⟨rfl, hi⟩ := hi
  have e : (ByteArray.mk l.toArray)[i]? = some (l.getD i 0) := by
    rw [getElem?_pos _ _ (by simpa [ByteArray.size] using hi)]
    simp [ByteArray.getElem_eq_getElem_data, List.getD_eq_getElem?_getD, hi]
  simp [execOp, h1, h2, Instr.index, asIntOf, underlying, ht, e]
theorem y_lenStr {l : List UInt8} (hx : ev L x = some (Str l)) (ht : P.underlying t = some .string) :
    Y P n S L ⟨dst, .call { callee := .builtin .len, args := #[x], argTypes := #[t] }, rty, pos, af, gd⟩ (I l.length) := (y_lenT hx ht).cast (by simp [ByteArray.size])
end
section
variable {c : Cx} {L : Sl} {H : List Res} {K : Act → World → Prop}
/-- a fact that the pieces bear out at every world -/
theorem tk_form {p : Prop} (h0 : ∀ w, St c w H → p) (h : p → TK c K L H) : TK c K L H := fun a w ha hw => h (h0 w hw) a w ha hw
theorem Fs.of_get {r : Res} {k : Nat} : ∀ {H : List Res} {i : Nat}, H[i]? = some r → r.fp k → Fs H k
  | [], _, h, _ => by simp at h
  | _ :: _, 0, h, hk => by simp at h; subst h; exact .inl hk
  | _ :: H, i + 1, h, hk => .inr (Fs.of_get (H := H) (i := i) (by simpa using h) hk)
theorem dj_at : ∀ {H : List Res} {i j : Nat} {r s : Res}, Dj H → i < j → H[i]? = some r → H[j]? = some s → ∀ k, r.fp k → ¬ s.fp k
  | [], _, _, _, _, _, _, h, _ => by simp at h
  | _ :: H, 0, 0, _, _, _, h, _, _ => by omega
  | _ :: H, 0, j + 1, r, s, hd, _, h, h' => fun k hk hs => by
    simp at h; subst h
    exact hd.1 k hk (Fs.of_get (H := H) (i := j) (by simpa using h') hs)
  | _ :: H, i + 1, 0, _, _, _, h, _, _ => by omega
  | _ :: H, i + 1, j + 1, r, s, hd, hij, h, h' => dj_at (H := H) (i := i) (j := j) hd.2 (by omega) (by simpa using h) (by simpa using h')
/-- two rows in the list are two blocks -/
theorem St.two {w : World} {b b' : Nat} {cs cs' : List Value} {T T' : TypeId} (h : St c w H) (i j : Nat) (hij : i < j) (hi : H[i]? = some (cel b cs T)) (hj : H[j]? = some (cel b' cs' T')) : b ≠ b' := fun e =>
  dj_at h.dj hij hi hj b rfl e
end
section
variable {c : Cx} {L : Sl} {H : List Res} {P : Program} {Q : Exit → Act → World → Prop} {ops : Array Oper} {S S' : World → Prop} {X : List Nat} {f : Nat} {l : Array Bool}
theorem AnyX.and : ∀ (f : Nat) (l : Array Bool) (a : Act) (w : World), S w ∧ S' w → AnyX P ops Q (fun w => S w ∧ S' w) [] f l a w → AnyX P ops Q S [] f l a w
  | 0, _, _, _, _, h => h
  | f + 1, _, _, w, h0, h => ⟨h.1, fun i hi => wpOp_mono (fun _ w' h' => by
      rcases h'.1 with h1 | h1
      · cases h1
      · exact ⟨.inr fun _ => (h1 h0).1, AnyX.and f _ _ _ (h1 h0) h'.2⟩) (h.2 i hi)⟩
/-- from here on S' is kept, too -/
theorem tx_and (S' : World → Prop) (h0 : ∀ w, St c w H → S w ∧ S' w) (h : TK c (AnyX P ops Q (fun w => S w ∧ S' w) [] f l) L H) : TK c (AnyX P ops Q S [] f l) L H := fun a w ha hw => AnyX.and _ _ _ _ (h0 w hw) (h a w ha hw)
theorem AnyX.anyS : ∀ (f : Nat) (l : Array Bool) (a : Act) (w : World), AnyX P ops Q S X f l a w → AnyX P ops Q (fun _ => True) [] f l a w
  | 0, _, _, _, h => h
  | f + 1, _, _, _, h => ⟨h.1, fun i hi => wpOp_mono (fun _ _ h' => ⟨.inr fun _ => trivial, AnyX.anyS f _ _ _ h'.2⟩) (h.2 i hi)⟩
/-- from here on S is kept; nothing was -/
theorem tx_S (S : World → Prop) (X : List Nat) (h : TK c (AnyX P ops Q S X f l) L H) : TK c (AnyX P ops Q (fun _ => True) [] f l) L H := fun a w ha hw => AnyX.anyS _ _ _ _ (h a w ha hw)
end
section
variable {c : Cx} {L : Sl} {H : List Res} {P : Program} {Q : Exit → Act → World → Prop} {K : Act → World → Prop} {d : Nat} {rty : TypeId} {pos : String} {af : Array Edge} {gd : Option (Nat × Bool)} {t t' : TypeId} {x y : Operand} {v u : Value}
/-- append a readable slice of one-cell elements -/
theorem a_appendR {H1 H2 : List Res} {n : Nat} {xs news : List Value} {e : TypeId} {bytes : Nat} (hx : ev L x = some v) (hy : ev L y = some u) (he : elB P t e 1 bytes) (hn : Nat.blt d c.n = true)
    (hH : H = H1 ++ own v n xs e 1 :: H2) (hr : ∀ w, St c w H → RdS w u news) (h1 : ∀ u ∈ news, u.oneCell' = true)
    (hb : n + news.length ≤ 140737488355328 ∧ (n + news.length) * bytes ≤ 140737488355328) (h : ∀ v', TK c K ((d, v') :: L) (H1 ++ own v' (n + news.length) (xs ++ news) e 1 :: H2)) :
    TK c (fun a w => (⟨some d, .call { callee := .builtin .append, args := #[x, y], argTypes := #[t, t] }, rty, pos, af, gd⟩ : Oper).wp P a w K Q) L H := fun a w ha hw => by
  rcases hr w hw with ⟨rfl, rfl⟩ | ⟨ad, cp, rfl, hc, hcell⟩
  · subst hH
    have h2 := ha.ev hx; have h3 := ha.ev hy
    obtain ⟨ht, i, z, hi, hz, hzs, hs1, rfl, hsz⟩ := he
    have hown := hw.mem (r := own v n xs e 1) (by simp)
    have e1 : (Builtin.append_ #[t, t] rty #[v, .slice none 0 0]).run P w = .ok v w := by
      rcases hown.2 with ⟨rfl, rfl⟩ | ⟨g, cap, cur, fr, rfl, hg, hf, hnc, hcm, hcs, htake⟩
      · simp [Builtin.append_, run_underlying ht, sizeOf, typeInfo, hi, Builtin.lenOf, Builtin.firstCells]
      · simp [Builtin.append_, run_underlying ht, sizeOf, typeInfo, hi, Builtin.lenOf, Builtin.firstCells, hnc, storeCells]
    have e2 : (execOp a.eval (⟨some d, .call { callee := .builtin .append, args := #[x, y], argTypes := #[t, t] }, rty, pos, af, gd⟩ : Oper)).run P w = .ok (.value v) w := by
      simp [execOp, resolve, h2, h3, invoke, builtin, e1]
    change Oper.upon P _ a K Q ((execOp a.eval _).run P w)
    rw [e2, Oper.upon_value]
    have := h v
    simp only [List.length_nil, Nat.add_zero, List.append_nil] at this
    exact this _ _ (ha.put hn _) hw
  · exact (a_append (c := c) (K := K) (Q := Q) (rty := rty) (pos := pos) (af := af) (gd := gd) (L := L) (H := H) (d := d) hx (by
      have h3 := ha.ev hy
      exact hy) he hn hH (by simp) (fun w' hw' j u' hj => by
        rcases hr w' hw' with ⟨h0, _⟩ | ⟨ad', cp', h0, _, hcell'⟩
        · cases h0
        · cases h0; exact hcell' j u' hj) h1 hb h) a w ha hw
theorem RdS.ne {w : World} {v : Value} {vs : List Value} {b : Nat} {cs : List Value} {T : TypeId} (h : St c w H) (hr : RdS c.w0 v vs) (hE : ¬ c.E (adOf v).block) (hm : cel b cs T ∈ H) : vs = [] ∨ (adOf v).block ≠ b := by
  cases vs with
  | nil => exact .inl rfl
  | cons u us =>
    have h0 := hr.cell (j := 0) (u := u) rfl
    have h1 : (adOf v).add 0 = adOf v := by simp [Addr.add]
    rw [h1] at h0
    exact .inr (h.ne h0 hE hm)
end
end Go.Proofs.Ytfofkjajlfphjaa

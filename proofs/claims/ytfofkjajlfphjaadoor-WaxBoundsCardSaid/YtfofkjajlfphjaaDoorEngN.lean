/- What the second printer asks: rows in segments, words of 32 bits, pieces that are only read, regions that keep a chosen list of pieces. Own work for this project; no program in sight. -/
import Derived.Test.YtfofkjajlfphjaaDoorEngM
import Derived.Laws.BitsAllLaws
set_option linter.unusedSimpArgs false
set_option linter.unusedVariables false
namespace Go.Proofs.YtfofkjajlfphjaaDoor
open Go Go.RowKit

/-! ## rows in segments -/
theorem gA {l1 l2 : List Value} {k o i : Nat} {v : Value} (h1 : l1.length = k) (ho : o = k + i) (h : l2[i]? = some v) : (l1 ++ l2)[o]? = some v := by
  subst ho; subst h1
  rw [List.getElem?_append_right (by omega)]; simpa using h
theorem gM {α : Type} {f : α → Value} {l : List α} {i : Nat} {d : α} (h : i < l.length) : (l.map f)[i]? = some (f (l.getD i d)) := by simp [List.getD_eq_getElem?_getD, h]
theorem gM1 {α : Type} {f : α → Value} {l : List α} {r : List Value} {i : Nat} {d : α} (h : i < l.length) : (l.map f ++ r)[i]? = some (f (l.getD i d)) := by
  rw [List.getElem?_append_left (by simpa using h)]; exact gM h
theorem sM {α : Type} {f : α → Value} {l : List α} {i : Nat} {v : α} : (l.map f).set i (f v) = (l.set i v).map f := List.map_set.symm
theorem sM1 {α : Type} {f : α → Value} {l : List α} {r : List Value} {i : Nat} {v : α} (h : i < l.length) : (l.map f ++ r).set i (f v) = (l.set i v).map f ++ r := by
  rw [List.set_append_left _ _ (by simpa using h), sM]
theorem sA {l1 l2 l2' : List Value} {k o i : Nat} {v : Value} (h1 : l1.length = k) (ho : o = k + i) (h : l2.set i v = l2') : (l1 ++ l2).set o v = l1 ++ l2' := by
  subst ho; subst h1
  rw [List.set_append_right _ _ (by omega), ← h]
  congr 2; omega
theorem oneW {l : List UInt32} : ∀ u ∈ l.map W4, u.oneCell' = true := by
  intro u hu
  obtain ⟨a, _, rfl⟩ := List.mem_map.1 hu
  rfl
theorem oneI {l : List Int} : ∀ u ∈ l.map I, u.oneCell' = true := by
  intro u hu
  obtain ⟨a, _, rfl⟩ := List.mem_map.1 hu
  rfl

abbrev Pre (w : World) (H0 : List Res) : Prop := Hs w H0 ∧ Dj H0
theorem St.pre {c : Cx} {w : World} {H0 Hr : List Res} (hw : St c w (H0 ++ Hr)) : Pre w H0 := ⟨(Hs_append.1 hw.hs).1, (Dj_append.1 hw.dj).1⟩

/-! parts of rows in segments -/
theorem dsW {α : Type} {f : α → Value} {l : List α} : ((l.map f).drop 0).take (l.map f).length = l.map f := by rw [List.drop_zero, List.take_length]
theorem dsW1 {α : Type} {f : α → Value} {l : List α} {r : List Value} : ((l.map f ++ r).drop 0).take (l.map f).length = l.map f := by rw [List.drop_zero, List.take_left]
theorem dsP {α : Type} {f : α → Value} {l : List α} {o m : Nat} (h : o + m ≤ l.length) : ((l.map f).drop o).take (((l.drop o).take m).map f).length = ((l.drop o).take m).map f := by
  rw [← List.map_drop, ← List.map_take]; congr 2; simp; omega
theorem dsP1 {α : Type} {f : α → Value} {l : List α} {r : List Value} {o m : Nat} (h : o + m ≤ l.length) : ((l.map f ++ r).drop o).take (((l.drop o).take m).map f).length = ((l.drop o).take m).map f := by
  rw [List.drop_append_of_le_length (by simp; omega), List.take_append_of_le_length (by simp; omega)]; exact dsP h
theorem dsA {l1 l2 vs : List Value} {k o i : Nat} (h1 : l1.length = k) (ho : o = k + i) (h : (l2.drop i).take vs.length = vs) : ((l1 ++ l2).drop o).take vs.length = vs := by
  subst ho; subst h1
  rw [← List.drop_drop, List.drop_left]; exact h
/-- slices of bytes, with what they hold -/
abbrev Sb := Value × List UInt8
def dP : Sb := (.slice none 0 0, [])
theorem getD_mem {α : Type} {l : List α} {i : Nat} {d : α} (h : i < l.length) : l.getD i d ∈ l := by
  rw [List.getD_eq_getElem?_getD, List.getElem?_eq_getElem h]; exact List.getElem_mem h

/-! ## pieces that are only read -/
def Ro (E : Nat → Prop) (w : World) (p : Res) : Prop := p.holds w ∧ ∀ k, p.fp k → ¬ E k
theorem Ro.st {c : Cx} {p : Res} {w : World} {H : List Res} (h : Ro c.E c.w0 p) (hw : St c w H) : p.holds w :=
  p.loc _ _ (fun k hk => hw.fr.block k (p.bnd _ h.1 k hk) (h.2 k hk)) h.1
theorem Ro.call {c : Cx} {p : Res} {w : World} {H0 Hr : List Res} (h : Ro c.E c.w0 p) (hw : St c w (H0 ++ Hr)) : Ro (Fs H0) w p :=
  ⟨h.st hw, fun k hk hf => by
    rcases hw.own k (Fs_append.2 (.inl hf)) with h1 | h1
    · exact h.2 k hk h1
    · have := p.bnd _ h.1 k hk; omega⟩
/-- out of a piece that is not handed on -/
theorem Ro.out {c : Cx} {p q : Res} {w : World} {H0 Hr : List Res} (hw : St c w (H0 ++ Hr)) (hq : q ∈ Hr) (h : q.holds w → p.holds w) (hf : ∀ k, p.fp k → q.fp k) : Ro (Fs H0) w p :=
  ⟨h (hw.mem (by simp [hq])), fun k hk h0 => (Dj_append.1 hw.dj).2.2 k h0 (Fs.of_mem hq (hf k hk))⟩
theorem Ro.nil {w : World} {p : Res} (h : p.holds w) : Ro (Fs []) w p := ⟨h, fun _ _ h => h⟩
/-- the cells of a slice, as a piece -/
def rd (v : Value) (vs : List Value) : Res where
  fp k := vs ≠ [] ∧ (adOf v).block = k
  holds w := RdS w v vs
  loc w w' h hr := by
    rcases hr with hr | ⟨ad, cp, rfl, hc, hr⟩
    · exact .inl hr
    · refine .inr ⟨ad, cp, rfl, hc, fun j u hj => ?_⟩
      have hb : (ad.add j).block = ad.block := by cases j <;> simp [Addr.add]
      have hne : vs ≠ [] := fun e => by subst e; cases hj
      have := h ad.block ⟨hne, rfl⟩
      have h2 := hr j u hj
      simp only [World.cell?, hb] at h2 ⊢
      rw [this]; exact h2
  bnd w hr k hk := by
    obtain ⟨hne, rfl⟩ := hk
    cases vs with
    | nil => exact (hne rfl).elim
    | cons u us =>
      have h0 := hr.cell (j := 0) (u := u) rfl
      rw [show (adOf v).add 0 = adOf v by simp [Addr.add]] at h0
      exact World.block_lt_of_cell? w _ h0
abbrev rdB (v : Value) (l : List UInt8) : Res := rd v (l.map B)
theorem Ro.rd {c : Cx} {v : Value} {vs : List Value} {w : World} {H : List Res} (h : Ro c.E c.w0 (YtfofkjajlfphjaaDoor.rd v vs)) (hw : St c w H) : RdS w v vs := h.st hw
theorem RdS.nil {w : World} : RdS w (.slice none 0 0) [] := .inl ⟨rfl, rfl⟩
theorem Ro.rnil {E : Nat → Prop} {w : World} : Ro E w (YtfofkjajlfphjaaDoor.rd (.slice none 0 0) []) := ⟨RdS.nil, fun _ hk => (hk.1 rfl).elim⟩
theorem RdS.cutB {w : World} {v : Value} {l : List UInt8} {lo hi : Nat} (h : RdB w v l) (hb : lo ≤ hi ∧ hi ≤ l.length) : RdB w (cutR v lo hi) ((l.drop lo).take (hi - lo)) := by
  have := RdS.cut h (lo := lo) (hi := hi) (by simpa using hb)
  rwa [← List.map_drop, ← List.map_take] at this
theorem RdS.cutBh {w : World} {v : Value} {l : List UInt8} {hi : Nat} (h : RdB w v l) (hb : hi ≤ l.length) : RdB w (cutR v 0 hi) (l.take hi) := by
  have := RdS.cutB h (lo := 0) (hi := hi) ⟨Nat.zero_le _, hb⟩
  simpa using this
theorem RdS.cutBl {w : World} {v : Value} {l : List UInt8} {lo : Nat} (h : RdB w v l) (hb : lo ≤ l.length) : RdB w (cutR v lo l.length) (l.drop lo) := by
  have := RdS.cutB h (lo := lo) (hi := l.length) ⟨hb, Nat.le_refl _⟩
  rwa [List.take_of_length_le (by simp)] at this
theorem Ro.cutB {E : Nat → Prop} {w : World} {v : Value} {l : List UInt8} {lo hi : Nat} (h : Ro E w (rdB v l)) (hb : lo ≤ hi ∧ hi ≤ l.length) : Ro E w (rdB (cutR v lo hi) ((l.drop lo).take (hi - lo))) :=
  ⟨RdS.cutB h.1 hb, fun k hk => h.2 k ⟨fun e => hk.1 (by simp at e; simp [e]), by rw [← hk.2, adOf_cut]⟩⟩
theorem Ro.cutBh {E : Nat → Prop} {w : World} {v : Value} {l : List UInt8} {hi : Nat} (h : Ro E w (rdB v l)) (hb : hi ≤ l.length) : Ro E w (rdB (cutR v 0 hi) (l.take hi)) := by
  have := Ro.cutB h (lo := 0) (hi := hi) ⟨Nat.zero_le _, hb⟩
  simpa using this
theorem Ro.cutBl {E : Nat → Prop} {w : World} {v : Value} {l : List UInt8} {lo : Nat} (h : Ro E w (rdB v l)) (hb : lo ≤ l.length) : Ro E w (rdB (cutR v lo l.length) (l.drop lo)) := by
  have := Ro.cutB h (lo := lo) (hi := l.length) ⟨hb, Nat.le_refl _⟩
  rwa [List.take_of_length_le (by simp)] at this
theorem cel_rdE {w : World} {b o m cp : Nat} {vs cs : List Value} {T : TypeId} (h : (cel b cs T).holds w) (hl : (cs.drop o).take vs.length = vs) (hm : m = vs.length) (hcp : m ≤ cp) : RdS w (.slice (some ⟨b, o, none⟩) m cp) vs := cel_rd h hl hm hcp
/-- a part of a row that is not handed on -/
theorem Ro.cel {c : Cx} {w : World} {H0 Hr : List Res} {b o m cp : Nat} {vs cs : List Value} {T : TypeId} (hw : St c w (H0 ++ Hr)) (hq : cel b cs T ∈ Hr) (hl : (cs.drop o).take vs.length = vs) (hm : m = vs.length) (hcp : m ≤ cp) : Ro (Fs H0) w (YtfofkjajlfphjaaDoor.rd (.slice (some ⟨b, o, none⟩) m cp) vs) :=
  Ro.out hw hq (fun h => cel_rd h hl hm hcp) (fun k hk => hk.2.symm)
theorem Ro.own {c : Cx} {w : World} {H0 Hr : List Res} {v : Value} {n : Nat} {xs : List Value} {e : TypeId} (hw : St c w (H0 ++ Hr)) (hq : own v n xs e 1 ∈ Hr) : Ro (Fs H0) w (YtfofkjajlfphjaaDoor.rd v xs) :=
  ⟨own_rdS (hw.mem (r := YtfofkjajlfphjaaDoor.own v n xs e 1) (by simp [hq])), fun k hk h0 => (Dj_append.1 hw.dj).2.2 k h0 (Fs.of_mem hq (by
    rcases own_cells (hw.mem (r := YtfofkjajlfphjaaDoor.own v n xs e 1) (by simp [hq])) with ⟨_, _, h⟩ | ⟨g, cap, rfl, _⟩
    · exact (hk.1 h).elim
    · rw [← hk.2]; rfl))⟩
theorem rd_take {w : World} {v : Value} {l : List UInt8} {m : Nat} (h : RdB w v l) (_hm : m ≤ l.length) : ∀ (j : Nat) (u : Value), ((l.take m).map B)[j]? = some u → w.cell? ((adOf v).add j) = some u := fun j u hj => h.cell (by
  rw [List.getElem?_map, List.getElem?_take] at hj
  split at hj
  · rw [List.getElem?_map]; exact hj
  · cases hj)

section
variable {c : Cx} {L : Sl} {H : List Res} {P : Program} {Q : Exit → Act → World → Prop} {K : Act → World → Prop} {n : Nat} {S : World → Prop} {dst : Option Tmp}
  {d : Nat} {rty : TypeId} {pos : String} {af : Array Edge} {gd : Option (Nat × Bool)} {t t' : TypeId} {x y z : Operand} {v u : Value} {k k' : IntKind} {xl xh : Operand}

/-- a slot told otherwise -/
theorem tk_re (t : Nat) (v v' : Value) (hl : lk t L = some v) (e : v = v') (h : TK c K ((t, v') :: L) H) : TK c K L H := fun a w ha hw =>
  h a w ⟨ha.df, ha.sz, fun s u hs => by
    rw [lk_cons] at hs
    cases hb : Nat.beq s t with
    | true => rw [hb] at hs; have := Nat.eq_of_beq_eq_true hb; subst this; simp at hs; subst hs; subst e; exact ha.at_ _ _ hl
    | false => rw [hb] at hs; exact ha.at_ _ _ hs⟩ hw
theorem tk_drawH {ops : Array Oper} {id : Nat} (H' : List Res) (X : List Nat) (hm : P.follows .mixedOrders = true)
    (h : TK c (AnyX P ops Q (fun w => St c w H') X ops.size (Array.replicate ops.size false)) L H) : TK c ((Code.region id ops true).wp P Q) L H := tk_draw _ X hm h
theorem hseg {b o : Nat} {cs pre vs post : List Value} {T : TypeId} (hm : cel b cs T ∈ H) (ho : pre.length = o) (e : cs = pre ++ (vs ++ post)) : ∀ w, St c w H → ∀ (j : Nat) (u : Value), vs[j]? = some u → w.cell? ((⟨b, o, none⟩ : Addr).add j) = some u := fun w hw j u hj => by
  rw [add_w]
  have hlt : j < vs.length := (List.getElem?_eq_some_iff.1 hj).1
  refine cel_cell (hw.mem hm) ?_
  subst e; subst ho
  rw [List.getElem?_append_right (by omega), List.getElem?_append_left (by omega)]
  simpa using hj
theorem a_storeE {H1 H2 : List Res} {b o : Nat} {cs cs' : List Value} {T : TypeId} (hx : ev L x = some (.pointer (some ⟨b, o, none⟩))) (hy : ev L y = some v) (ht : szB P t 1 = true) (hone : v.oneCell' = true)
    (hH : H = H1 ++ cel b cs T :: H2) (hlen : o < cs.length) (e : cs.set o v = cs') (h : TK c K L (H1 ++ cel b cs' T :: H2)) :
    TK c (fun a w => (⟨none, .store t x y, rty, pos, af, gd⟩ : Oper).wp P a w K Q) L H := a_store1 hx hy ht hone hH hlen (e ▸ h)
theorem a_storeLE {H1 H2 : List Res} {b o : Nat} {cs cs' pre mid post vs : List Value} {T : TypeId} (k : Nat) (hx : ev L x = some (.pointer (some ⟨b, o, none⟩))) (hy : ev L y = some (.agg vs.toArray)) (ht : szB P t k = true)
    (hH : H = H1 ++ cel b cs T :: H2) (hk : vs.length = k ∧ mid.length = k ∧ pre.length = o) (hone : ∀ u ∈ vs, u.oneCell' = true) (e : cs = pre ++ (mid ++ post)) (e' : cs' = pre ++ (vs ++ post)) (h : TK c K L (H1 ++ cel b cs' T :: H2)) :
    TK c (fun a w => (⟨none, .store t x y, rty, pos, af, gd⟩ : Oper).wp P a w K Q) L H := by
  obtain ⟨h1, h2, h3⟩ := hk
  have e1 : cs.take o ++ vs ++ cs.drop (o + k) = cs' := by
    subst e; subst e'; subst h3
    rw [List.take_left, ← List.drop_drop, List.drop_left, List.append_assoc]
    congr 2
    rw [← h2, List.drop_left]
  exact a_store (k := k) (vs := vs) hx hy rfl ht h1 hH hone (by subst e; simp; omega) (e1 ▸ h)

/-! ### words of 32 bits -/
theorem w_lt (a : UInt32) : a.toNat < 4294967296 := a.toNat_lt
theorem y_addW {a b : UInt32} (hx : ev L x = some (W4 a)) (hy : ev L y = some (W4 b)) : Y P n S L ⟨dst, .binOp .add t x y t', rty, pos, af, gd⟩ (W4 (a + b)) :=
  (y_add hx hy).cast (by
    rw [IntKind.wrap_u32]
    simp only [W4, UInt32.toNat_add]
    congr 1)
theorem y_xorW {a b : UInt32} (hx : ev L x = some (W4 a)) (hy : ev L y = some (W4 b)) : Y P n S L ⟨dst, .binOp .xor t x y t', rty, pos, af, gd⟩ (W4 (a ^^^ b)) :=
  (y_bits hx hy (by simp)).cast (by rw [u32_xor_nat _ _ (w_lt a) (w_lt b)]; simp only [W4, UInt32.toNat_xor])
theorem y_andW {a b : UInt32} (hx : ev L x = some (W4 a)) (hy : ev L y = some (W4 b)) : Y P n S L ⟨dst, .binOp .and t x y t', rty, pos, af, gd⟩ (W4 (a &&& b)) :=
  (y_bits hx hy (by simp)).cast (by rw [u32_and_nat _ _ (w_lt a) (w_lt b)]; simp only [W4, UInt32.toNat_and])
theorem y_orW {a b : UInt32} (hx : ev L x = some (W4 a)) (hy : ev L y = some (W4 b)) : Y P n S L ⟨dst, .binOp .or t x y t', rty, pos, af, gd⟩ (W4 (a ||| b)) :=
  (y_bits hx hy (by simp)).cast (by rw [u32_or_nat _ _ (w_lt a) (w_lt b)]; simp only [W4, UInt32.toNat_or])
theorem y_notW {a : UInt32} (hx : ev L x = some (W4 a)) : Y P n S L ⟨dst, .unOp .xor t x, rty, pos, af, gd⟩ (W4 (~~~ a)) :=
  (y_inv hx).cast (by
    have h := u32_xor_nat 4294967295 a.toNat (by decide) (w_lt a)
    have e1 : (if IntKind.u32.signed = true then -1 else IntKind.u32.max) = ((4294967295 : Nat) : Int) := by decide
    rw [e1, h]
    congr 2)
theorem y_shlW {a : UInt32} {m : Nat} (hx : ev L x = some (W4 a)) (hy : ev L y = some (.int k' (m : Int))) (hm : m < 32) :
    Y P n S L ⟨dst, .binOp .shl t x y t', rty, pos, af, gd⟩ (W4 (a <<< UInt32.ofNat m)) :=
  (y_shl hx hy (by omega)).cast (by
    have e : min ((m : Int)).toNat IntKind.u32.bits = m := by simp [IntKind.bits]; omega
    have e3 : (UInt32.ofNat m).toNat = m := by simp; omega
    rw [IntKind.wrap_u32, e]
    simp only [W4, UInt32.toNat_shiftLeft, e3, Nat.mod_eq_of_lt hm, Nat.shiftLeft_eq]
    congr 1)
theorem y_shrW {a : UInt32} {m : Nat} (hx : ev L x = some (W4 a)) (hy : ev L y = some (.int k' (m : Int))) (hm : m < 32) :
    Y P n S L ⟨dst, .binOp .shr t x y t', rty, pos, af, gd⟩ (W4 (a >>> UInt32.ofNat m)) :=
  (y_shr hx hy (by omega)).cast (by
    have e : min ((m : Int)).toNat IntKind.u32.bits = m := by simp [IntKind.bits]; omega
    have e3 : (UInt32.ofNat m).toNat = m := by simp; omega
    rw [e, fdiv_nat]
    simp only [W4, UInt32.toNat_shiftRight, e3, Nat.mod_eq_of_lt hm, Nat.shiftRight_eq_div_pow])
theorem y_conv8W {a : UInt8} (hx : ev L x = some (B a)) (hs : (P.underlying t).isSome = true) (hd : P.underlying t' = some (.int .u32)) : Y P n S L ⟨dst, .convert t t' x, rty, pos, af, gd⟩ (W4 a.toUInt32) :=
  (y_conv hx hs hd).cast (by
    rw [IntKind.wrap_u32]
    have := b_lt a
    simp only [W4, UInt8.toNat_toUInt32]
    congr 1; omega)
theorem y_convW8 {a : UInt32} (hx : ev L x = some (W4 a)) (hs : (P.underlying t).isSome = true) (hd : P.underlying t' = some (.int .u8)) : Y P n S L ⟨dst, .convert t t' x, rty, pos, af, gd⟩ (B a.toUInt8) :=
  (y_conv hx hs hd).cast (by
    rw [IntKind.wrap_u8]
    simp only [B, UInt32.toNat_toUInt8]
    congr 1)
theorem y_conv8u {a : UInt8} (hx : ev L x = some (B a)) (hs : (P.underlying t).isSome = true) (hd : P.underlying t' = some (.int .u64)) : Y P n S L ⟨dst, .convert t t' x, rty, pos, af, gd⟩ (.int .u64 ((a.toNat : Nat) : Int)) :=
  (y_conv hx hs hd).cast (by have := b_lt a; rw [wrap_u64 (by omega)])
theorem y_convS {a : Int} (hx : ev L x = some (.int k a)) (hs : (P.underlying t).isSome = true) (hd : P.underlying t' = some (.int k)) (hw : k.wrap a = a) : Y P n S L ⟨dst, .convert t t' x, rty, pos, af, gd⟩ (.int k a) := (y_conv hx hs hd).cast (by rw [hw])
theorem y_shlU {a m : Nat} (hx : ev L x = some (.int .u64 (a : Int))) (hy : ev L y = some (.int k' (m : Int))) (hm : m ≤ 64) (h : a * 2 ^ m < 18446744073709551616) : Y P n S L ⟨dst, .binOp .shl t x y t', rty, pos, af, gd⟩ (.int .u64 ((a * 2 ^ m : Nat) : Int)) :=
  (y_shl hx hy (by omega)).cast (by
    have e : min ((m : Int)).toNat IntKind.u64.bits = m := by simp [IntKind.bits]; omega
    have e2 : (a : Int) * 2 ^ m = ((a * 2 ^ m : Nat) : Int) := by simp
    rw [e, e2, wrap_u64 h])
theorem y_remU {a b : Nat} (hx : ev L x = some (.int .u64 (a : Int))) (hy : ev L y = some (.int .u64 (b : Int))) (h : 0 < b) : Y P n S L ⟨dst, .binOp .rem t x y t', rty, pos, af, gd⟩ (.int .u64 ((a % b : Nat) : Int)) :=
  (y_rem hx hy (by omega)).cast (by rw [Int.tmod_eq_emod_of_nonneg (by omega)]; rfl)
theorem y_lenSN {ad : Option Addr} {len cap : Nat} {e : TypeId} {n' : Nat} (hx : ev L x = some (.slice ad len cap)) (ht : P.underlying t = some (.slice e)) (hn : len = n' := by rfl) :
    Y P n S L ⟨dst, .call { callee := .builtin .len, args := #[x], argTypes := #[t] }, rty, pos, af, gd⟩ (I ((n' : Nat) : Int)) := hn ▸ y_lenS hx ht
theorem y_lenRN {w0 : World} {vs : List Value} {e : TypeId} {n' : Nat} (hx : ev L x = some v) (hv : RdS w0 v vs) (ht : P.underlying t = some (.slice e)) (hn : vs.length = n') :
    Y P n S L ⟨dst, .call { callee := .builtin .len, args := #[x], argTypes := #[t] }, rty, pos, af, gd⟩ (I ((n' : Nat) : Int)) := hn ▸ y_lenR hx hv ht
theorem y_minN {a b : Nat} {ty : Array TypeId} (hx : ev L x = some (I (a : Int))) (hy : ev L y = some (I (b : Int))) :
    Y P n S L ⟨dst, .call { callee := .builtin .min, args := #[x, y], argTypes := ty }, rty, pos, af, gd⟩ (I ((min a b : Nat) : Int)) := (y_minI hx hy).cast (by
      congr 1
      split <;> omega)

/-! ### cuts told in numbers -/
theorem y_cutAN1 {b o : Nat} {il ih : Int} (m sz : Nat) (lo hi : Nat) (hx : ev L x = some (.pointer (some ⟨b, o, none⟩))) (hl : ev L xl = some (.int k il)) (hh : ev L xh = some (.int k' ih))
    (ht : arrB P t m 1 = true) (hb : il = (lo : Int) ∧ ih = (hi : Int) ∧ lo ≤ hi ∧ hi ≤ m ∧ lo < m) :
    Y P n S L ⟨dst, .slice t x (some xl) (some xh) none, rty, pos, af, gd⟩ (.slice (some ⟨b, o + lo, none⟩) (hi - lo) (m - lo)) := (y_cutAN m 1 lo hi hx hl hh ht hb).cast (by rw [Nat.mul_one])
theorem y_cutAhN {b o : Nat} {ih : Int} (m sz : Nat) (hi : Nat) (hx : ev L x = some (.pointer (some ⟨b, o, none⟩))) (hh : ev L xh = some (.int k' ih))
    (ht : arrB P t m sz = true) (hb : ih = (hi : Int) ∧ hi ≤ m) :
    Y P n S L ⟨dst, .slice t x none (some xh) none, rty, pos, af, gd⟩ (.slice (some ⟨b, o, none⟩) hi m) := by
  obtain ⟨rfl, h2⟩ := hb
  refine (y_cutAh hx hh ht (by omega)).cast ?_
  rw [Int.toNat_natCast]
theorem y_cutAlN {b o : Nat} {il : Int} (m sz : Nat) (lo : Nat) (hx : ev L x = some (.pointer (some ⟨b, o, none⟩))) (hl : ev L xl = some (.int k il))
    (ht : arrB P t m sz = true) (hb : il = (lo : Int) ∧ lo < m) :
    Y P n S L ⟨dst, .slice t x (some xl) none none, rty, pos, af, gd⟩ (.slice (some ⟨b, o + lo * sz, none⟩) (m - lo) (m - lo)) := by
  obtain ⟨rfl, h2⟩ := hb
  refine (y_cutAl hx hl ht (by omega)).cast ?_
  have e : ¬ m = lo := by omega
  simp only [cutAd, Int.toNat_natCast, if_neg e, Option.map_some, add_w]
theorem y_cutAlN1 {b o : Nat} {il : Int} (m sz : Nat) (lo : Nat) (hx : ev L x = some (.pointer (some ⟨b, o, none⟩))) (hl : ev L xl = some (.int k il))
    (ht : arrB P t m 1 = true) (hb : il = (lo : Int) ∧ lo < m) :
    Y P n S L ⟨dst, .slice t x (some xl) none none, rty, pos, af, gd⟩ (.slice (some ⟨b, o + lo, none⟩) (m - lo) (m - lo)) := (y_cutAlN m 1 lo hx hl ht hb).cast (by rw [Nat.mul_one])
theorem y_cutShN {ad : Option Addr} {len cap : Nat} {ih : Int} (sz hi : Nat) (hx : ev L x = some (.slice ad len cap)) (hh : ev L xh = some (.int k' ih))
    (ht : sliB P t sz = true) (hb : ih = (hi : Int) ∧ hi ≤ cap) :
    Y P n S L ⟨dst, .slice t x none (some xh) none, rty, pos, af, gd⟩ (.slice ad hi cap) := by
  obtain ⟨rfl, h2⟩ := hb
  refine (y_cutSh hx hh ht (by omega)).cast ?_
  rw [Int.toNat_natCast]
theorem y_cutRBlh {l : List UInt8} {w0 : World} {il ih : Int} (lo hi : Nat) (hx : ev L x = some v) (hl : ev L xl = some (.int k il)) (hh : ev L xh = some (.int k' ih)) (hv : RdB w0 v l) (ht : sliB P t 1 = true)
    (hb : lo ≤ hi ∧ hi ≤ l.length) (e1 : il = (lo : Int) := by rfl) (e2 : ih = (hi : Int) := by rfl) : Y P n S L ⟨dst, .slice t x (some xl) (some xh) none, rty, pos, af, gd⟩ (cutR v lo hi) :=
  y_cutR lo hi hx hl hh hv ht (by rw [List.length_map]; exact ⟨e1, e2, hb⟩)
theorem y_cutRBh {l : List UInt8} {w0 : World} {ih : Int} (hi : Nat) (hx : ev L x = some v) (hh : ev L xh = some (.int k' ih)) (hv : RdB w0 v l) (ht : sliB P t 1 = true)
    (hb : hi ≤ l.length) (e2 : ih = (hi : Int) := by rfl) : Y P n S L ⟨dst, .slice t x none (some xh) none, rty, pos, af, gd⟩ (cutR v 0 hi) :=
  y_cutRh hi hx hh hv ht (by rw [List.length_map]; exact ⟨e2, hb⟩)
theorem y_cutRBl {l : List UInt8} {w0 : World} {il : Int} (lo : Nat) (hx : ev L x = some v) (hl : ev L xl = some (.int k il)) (hv : RdB w0 v l) (ht : sliB P t 1 = true)
    (hb : lo ≤ l.length) (e1 : il = (lo : Int) := by rfl) : Y P n S L ⟨dst, .slice t x (some xl) none none, rty, pos, af, gd⟩ (cutR v lo l.length) :=
  (y_cutRl lo hx hl hv ht (by rw [List.length_map]; exact ⟨e1, hb⟩)).cast (by rw [List.length_map])
theorem y_s2aR {l : List UInt8} {w0 : World} {m : Nat} {e : TypeId} (hx : ev L x = some v) (ht : P.underlying t = some (.array m e)) (hv : RdB w0 v l) (hm : m ≤ l.length) (h0 : 0 < m := by decide) :
    Y P n S L ⟨dst, .sliceToArrayPointer t x, rty, pos, af, gd⟩ (.pointer (some (adOf v))) := by
  rcases hv with ⟨rfl, h⟩ | ⟨ad, cap, rfl, _, _⟩
  · have := congrArg List.length h; rw [List.length_map] at this; simp only [List.length_nil] at this; omega
  · exact y_s2a hx ht (by simpa using hm)

/-! ### strings -/
theorem y_catT {l m : List UInt8} (hx : ev L x = some (Str l)) (hy : ev L y = some (Str m)) (h : l.length + m.length ≤ 9223372036854775807) : Y P n S L ⟨dst, .binOp .add t x y t', rty, pos, af, gd⟩ (Str (l ++ m)) := fun q w ha _ => by
  have h1 := ha.ev hx; have h2 := ha.ev hy
  have e : ¬ ((((ByteArray.mk l.toArray).size + (ByteArray.mk m.toArray).size : Nat) : Int) > IntKind.i64.max) := by
    have e0 : IntKind.i64.max = 9223372036854775807 := by decide
    rw [e0]; simp [ByteArray.size]; omega
  have e2 : ByteArray.mk l.toArray ++ ByteArray.mk m.toArray = ByteArray.mk (l ++ m).toArray := by
    apply ByteArray.ext; simp
  have e3 : (binOp .add t (Str l) (Str m)) = Op.stringOp .add ⟨l.toArray⟩ ⟨m.toArray⟩ := rfl
  have e4 : (Op.stringOp .add ⟨l.toArray⟩ ⟨m.toArray⟩).run P w = .ok (Str (l ++ m)) w := by
    simp only [Op.stringOp, if_neg e, e2]; rfl
  simp only [execOp, h1, h2, eqGuard_at_string, e3]
  rw [Sem.run_bind, Sem.run_bind, Sem.run_pure, Result.andThen, e4]; rfl
theorem ext_l {l : List UInt8} {lo hi : Nat} (h : hi ≤ l.length) : (ByteArray.mk l.toArray).extract lo hi = ByteArray.mk ((l.take hi).drop lo).toArray := by
  apply ByteArray.ext
  rw [ByteArray.data_extract]
  simp [List.extract_eq_take_drop, List.drop_take]
theorem y_cutTlh {l : List UInt8} {il ih : Int} {lo hi : Nat} (hx : ev L x = some (Str l)) (hl : ev L xl = some (.int k il)) (hh : ev L xh = some (.int k' ih)) (ht : P.underlying t = some .string) (hb : lo ≤ hi ∧ hi ≤ l.length) (e1 : il = (lo : Int) := by rfl) (e2 : ih = (hi : Int) := by rfl) :
    Y P n S L ⟨dst, .slice t x (some xl) (some xh) none, rty, pos, af, gd⟩ (Str ((l.drop lo).take (hi - lo))) := fun q w ha hs => by
  have h1 := ha.ev hx; have h2 := ha.ev hl; have h3 := ha.ev hh
  subst e1; subst e2
  have e0 : (ByteArray.mk l.toArray).size = l.length := by simp [ByteArray.size]
  have b1 : (Instr.sliceBound (.int k' (hi : Int)) l.length .sliceAlen).run P w = .ok hi w := by have := sliceBound_ok (P := P) (k := k') (i := (hi : Int)) (m := l.length) (code := .sliceAlen) (w := w) (by omega); simpa using this
  have b2 : (Instr.sliceBound (.int k (lo : Int)) hi .sliceB).run P w = .ok lo w := by have := sliceBound_ok (P := P) (k := k) (i := (lo : Int)) (m := hi) (code := .sliceB) (w := w) (by omega); simpa using this
  have e3 : (l.drop lo).take (hi - lo) = (l.take hi).drop lo := by rw [List.drop_take]
  rw [e3]
  simp [execOp, h1, h2, h3, Instr.sliceAt, underlying, ht, Instr.slice, Instr.sliceBounds, e0, b1, b2, ext_l hb.2]
theorem y_cutTh {l : List UInt8} {ih : Int} {hi : Nat} (hx : ev L x = some (Str l)) (hh : ev L xh = some (.int k' ih)) (ht : P.underlying t = some .string) (hb : hi ≤ l.length) (e2 : ih = (hi : Int) := by rfl) :
    Y P n S L ⟨dst, .slice t x none (some xh) none, rty, pos, af, gd⟩ (Str (l.take hi)) := fun q w ha hs => by
  have h1 := ha.ev hx; have h3 := ha.ev hh
  subst e2
  have e0 : (ByteArray.mk l.toArray).size = l.length := by simp [ByteArray.size]
  have b1 : (Instr.sliceBound (.int k' (hi : Int)) l.length .sliceAlen).run P w = .ok hi w := by have := sliceBound_ok (P := P) (k := k') (i := (hi : Int)) (m := l.length) (code := .sliceAlen) (w := w) (by omega); simpa using this
  simp [execOp, h1, h3, Instr.sliceAt, underlying, ht, Instr.slice, Instr.sliceBounds, e0, b1, ext_l hb]
theorem y_cutTl {l : List UInt8} {il : Int} {lo : Nat} (hx : ev L x = some (Str l)) (hl : ev L xl = some (.int k il)) (ht : P.underlying t = some .string) (hb : lo ≤ l.length) (e1 : il = (lo : Int) := by rfl) :
    Y P n S L ⟨dst, .slice t x (some xl) none none, rty, pos, af, gd⟩ (Str (l.drop lo)) := fun q w ha hs => by
  have h1 := ha.ev hx; have h2 := ha.ev hl
  subst e1
  have e0 : (ByteArray.mk l.toArray).size = l.length := by simp [ByteArray.size]
  have b2 : (Instr.sliceBound (.int k (lo : Int)) l.length .sliceB).run P w = .ok lo w := by have := sliceBound_ok (P := P) (k := k) (i := (lo : Int)) (m := l.length) (code := .sliceB) (w := w) (by omega); simpa using this
  simp [execOp, h1, h2, Instr.sliceAt, underlying, ht, Instr.slice, Instr.sliceBounds, e0, b2, ext_l (Nat.le_refl l.length)]
theorem y_ixVM {α : Type} {f : α → Value} {l : List α} {d0 : α} {i len : Nat} {e : TypeId} (hx : ev L x = some (.agg (l.map f).toArray)) (hy : ev L y = some (.int k (i : Int))) (ht : P.underlying t = some (.array len e)) (he : scB P e = true) (hz : ∀ w, (Go.sizeOf e).run P w = .ok 1 w)
    (hi : i < len) (hl : i < l.length) : Y P n S L ⟨dst, .index t x y, rty, pos, af, gd⟩ (f (l.getD i d0)) := y_ixV hx hy ht he hz (by omega) (by
      have := gM (f := f) (d := d0) hl
      simpa using this)

/-! ### slice literals of one-cell elements -/
def ixs : Nat → List Value → List (Nat × Value)
  | _, [] => []
  | n, v :: vs => (n, v) :: ixs (n + 1) vs
theorem fill_ixs : ∀ (vs : List Value) (n : Nat) (cs : Array Value), (∀ u ∈ vs, u.oneCell' = true) → n + vs.length ≤ cs.size →
    Instr.fill (fun i => some (i * 1, 1)) cs (ixs n vs) = some (cs.toList.take n ++ vs ++ cs.toList.drop (n + vs.length)).toArray
  | [], n, cs, _, _ => by simp [ixs, Instr.fill]
  | v :: vs, n, cs, h1, hn => by
    have hv : v.cells = #[v] := by
      have := h1 v (by simp)
      cases v <;> first | rfl | simp [Value.oneCell'] at this
    simp only [List.length_cons] at hn
    have hlt : n < cs.size := by omega
    have ih := fill_ixs vs (n + 1) (cs.setIfInBounds n v) (fun u hu => h1 u (by simp [hu])) (by simp; omega)
    have e1 : ¬ ((decide (v.cells.size ≠ 1) || decide (n * 1 + v.cells.size > cs.size)) = true) := by rw [hv]; simp; omega
    simp only [ixs, Instr.fill]
    rw [if_neg e1]
    have e2 : (v.cells.zipIdx.foldl (fun cs (p : Value × Nat) => cs.setIfInBounds (n * 1 + p.2) p.1) cs) = cs.setIfInBounds n v := by rw [hv]; simp
    rw [e2, ih]
    congr 2
    rw [Array.toList_setIfInBounds]
    have e3 : (cs.toList.set n v).take (n + 1) = cs.toList.take n ++ [v] := by
      rw [List.take_add_one]
      rw [List.take_set_of_le (by omega)]
      simp [hlt]
    have e4 : (cs.toList.set n v).drop (n + 1 + vs.length) = cs.toList.drop (n + (v :: vs).length) := by
      rw [List.drop_set, if_pos (by omega)]
      congr 1; simp; omega
    rw [e3, e4]; simp
theorem run_slitN {w : World} {e : TypeId} {bytes : Nat} {vs : List Value} (he : elB P t e 1 bytes) (h1 : ∀ u ∈ vs, u.oneCell' = true) (hs : vs.length ≤ 16777216) :
    (Instr.buildSlice t vs.length (ixs 0 vs).toArray).run P w = .ok (.slice (some ⟨w.heap.size, 0, none⟩) vs.length vs.length) { w with heap := w.heap.push (.cells vs.toArray e) } := by
  obtain ⟨ht, i, z, hi, hz, hzs, hsz, _, _⟩ := he
  have hb : ¬ (vs.length > 2 ^ 24) := by omega
  have key : ∀ cs : Array Value, cs.size = vs.length → Instr.fill (fun i => some (i * 1, 1)) cs (ixs 0 vs) = some vs.toArray := fun cs hc => by
    rw [fill_ixs vs 0 cs h1 (by omega)]
    have : cs.toList.drop (0 + vs.length) = [] := by apply List.drop_of_length_le; simp; omega
    rw [this]; simp
  by_cases h0 : vs.length = 0
  · have : vs = [] := List.eq_nil_of_length_eq_zero h0
    subst this
    have e0 : Array.range 0 = #[] := rfl
    simp [Instr.buildSlice, underlying, ht, Go.sizeOf, typeInfo, hi, hsz, Instr.fill, ixs, newRow, e0]
  · have k2 := key ((Array.range vs.length).map (fun j => z.cells[j % z.cells.size]!)) (by simp)
    simp only [Nat.mul_one] at k2
    simp [Instr.buildSlice, underlying, ht, Go.sizeOf, typeInfo, hi, hsz, zeroValue, hz, h0, hb, newRow, k2]
theorem a_slitN {xs : List (Nat × Operand)} {vs : List Value} {e : TypeId} {bytes m : Nat} (hx : evp L xs = some (ixs 0 vs)) (h1 : ∀ u ∈ vs, u.oneCell' = true) (he : elB P t e 1 bytes) (hn : Nat.blt d c.n = true) (hm : vs.length = m) (hs : m ≤ 16777216)
    (h : ∀ b, TK c K ((d, .slice (some ⟨b, 0, none⟩) m m) :: L) (cel b vs e :: H)) :
    TK c (fun a w => (⟨some d, .buildSlice t m xs.toArray, rty, pos, af, gd⟩ : Oper).wp P a w K Q) L H := by
  subst hm
  exact a_slit hx hn (fun _ => run_slitN he h1 hs) h
/-- copy of a readable slice's cells into a row of one's own -/
theorem a_copyR {H1 H2 : List Res} {b o dl cap m : Nat} {cs cs' pre mid post vs us : List Value} {T e : TypeId} (hx : ev L x = some (.slice (some ⟨b, o, none⟩) dl cap)) (hy : ev L y = some u) (ht : P.underlying t = some (.slice e)) (hz : szB P e 1 = true) (hn : Nat.blt d c.n = true)
    (hH : H = H1 ++ cel b cs T :: H2) (hu : ∀ w, St c w H → RdS w u us) (hm : m = min us.length dl) (hvs : vs = us.take m) (h1 : ∀ q ∈ vs, q.oneCell' = true) (hk : mid.length = m ∧ pre.length = o) (e1 : cs = pre ++ (mid ++ post)) (e2 : cs' = pre ++ (vs ++ post)) (h : TK c K ((d, I ((m : Nat) : Int)) :: L) (H1 ++ cel b cs' T :: H2)) :
    TK c (fun a w => (⟨some d, .call { callee := .builtin .copy, args := #[x, y], argTypes := #[t, t'] }, rty, pos, af, gd⟩ : Oper).wp P a w K Q) L H := fun a w ha hw => by
  have hr := hu w hw
  subst hH
  have h2 := ha.ev hx; have h3 := ha.ev hy
  obtain ⟨fr, hb, hf⟩ := hw.mem (r := cel b cs T) (by simp)
  have hvl : vs.length = m := by rw [hvs]; simp; omega
  obtain ⟨w', h4, h5, h6⟩ := run_storeCells P b T vs o 0 w cs fr hb hf h1 (by rw [e1]; simp; omega)
  have e5 : cs.take o ++ vs ++ cs.drop (o + vs.length) = cs' := by
    obtain ⟨k1, k2⟩ := hk
    subst e1; subst e2; subst k2
    rw [List.take_left, ← List.drop_drop, List.drop_left, List.append_assoc]
    congr 2
    rw [hvl, ← k1, List.drop_left]
  have hrun : (execOp a.eval (⟨some d, .call { callee := .builtin .copy, args := #[x, y], argTypes := #[t, t'] }, rty, pos, af, gd⟩ : Oper)).run P w = .ok (.value (I ((m : Nat) : Int))) w' := by
    rcases hr with ⟨rfl, rfl⟩ | ⟨ad, cp, rfl, hc, hcell⟩
    · have hm0 : m = 0 := by simp at hm; exact hm
      subst hm0
      have hv0 : vs = [] := List.eq_nil_of_length_eq_zero hvl
      subst hv0
      simp [storeCells] at h4
      have h4 := h4
      simp [execOp, resolve, h2, h3, invoke, builtin, Builtin.copy_, underlying, ht, Builtin.lenOf, szB_run hz, Builtin.firstCells, loadCells, loadCellsFrom, storeCells, goInt]
      exact h4
    · have hmin : Nat.min us.length dl = m := hm.symm
      have hfc := run_firstCells_some (P := P) w 1 m ad us.length cp vs (by omega) (fun j q hj => hcell j q (by
        rw [hvs, List.getElem?_take] at hj
        split at hj
        · exact hj
        · cases hj))
      simp only [execOp, resolve, invoke, builtin]
      simp [h2, h3, Builtin.copy_, underlying, ht, Builtin.lenOf, hmin, szB_run hz, hfc, h4, goInt]
  change Oper.upon P _ a K Q ((execOp a.eval _).run P w)
  rw [hrun, Oper.upon_value]
  refine h _ _ (ha.put hn _) (St.perm (St.turn (N := [cel b cs' T]) hw h6 ⟨⟨fr, by simpa [e5] using h5, ?_⟩, trivial⟩ ⟨fun _ _ h => h, trivial⟩ ?_) perm_mid)
  · have : cs'.length = cs.length := by rw [e1, e2]; simp; omega
    rw [this]; exact hf
  · intro j hj
    rcases hj with hj | hj
    · exact .inl hj
    · exact hj.elim
end
end Go.Proofs.YtfofkjajlfphjaaDoor

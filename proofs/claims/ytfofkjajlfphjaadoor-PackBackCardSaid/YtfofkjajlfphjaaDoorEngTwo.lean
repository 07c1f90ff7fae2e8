/- The engine: walks over code with pieces of memory. Own work. -/
import Derived.Test.YtfofkjajlfphjaaDoorEngOne
import Derived.Laws.BitsAllLaws
import Derived.Deep.AppendSrc
import Derived.Laws.StructEq
set_option linter.unusedSimpArgs false
set_option linter.unusedVariables false
/- What the second printer asks: rows in segments, words of 32 bits, pieces that are only read, regions that keep a chosen list of pieces. Own work for this project; no program in sight. -/
namespace Go.Proofs.YtfofkjajlfphjaaDoor
open Go Go.RowKit

/-! ## rows in segments -/
theorem gA {l1 l2 : List Value} {k o i : Nat} {v : Value} (h1 : l1.length = k) (ho : o = k + i) (h : l2[i]? = some v) : (l1 ++ l2)[o]? = some v := by
  subst ho; subst h1
  rw [List.getElem?_append_right (by omega)]; simpa using h
theorem gM {α : Type} {f : α → Value} {l : List α} {i : Nat} {d : α} (h : i < l.length) : (l.map f)[i]? = some (f (l.getD i d)) := by simp [List.getD_eq_getElem?_getD, h]
theorem gM1 {α : Type} {f : α → Value} {l : List α} {r : List Value} {i : Nat} {d : α} (h : i < l.length) : (l.map f ++ r)[i]? = some (f (l.getD i d)) := by
  rw [List.getElem?_append_left (by simpa using h)]; exact gM h
theorem sM {α : Type} {f : α → Value} {l : List α} {i : Nat} {v : α} : (l.map f).set i (f v) = (l.set i v).map f := List.map_set.symm
theorem sM1 {α : Type} {f : α → Value} {l : List α} {r : List Value} {i : Nat} {v : α} (h : i < l.length) : (l.map f ++ r).set i (f v) = (l.set i v).map f ++ r := by
  rw [List.set_append_left _ _ (by simpa using h), sM]
theorem sA {l1 l2 l2' : List Value} {k o i : Nat} {v : Value} (h1 : l1.length = k) (ho : o = k + i) (h : l2.set i v = l2') : (l1 ++ l2).set o v = l1 ++ l2' := by
  subst ho; subst h1
  rw [List.set_append_right _ _ (by omega), ← h]
  congr 2; omega
theorem oneW {l : List UInt32} : ∀ u ∈ l.map W4, u.oneCell' = true := by
  intro u hu
  obtain ⟨a, _, rfl⟩ := List.mem_map.1 hu
  rfl
theorem oneI {l : List Int} : ∀ u ∈ l.map I, u.oneCell' = true := by
  intro u hu
  obtain ⟨a, _, rfl⟩ := List.mem_map.1 hu
  rfl

abbrev Pre (w : World) (H0 : List Res) : Prop := Hs w H0 ∧ Dj H0
theorem St.pre {c : Cx} {w : World} {H0 Hr : List Res} (hw : St c w (H0 ++ Hr)) : Pre w H0 := ⟨(Hs_append.1 hw.hs).1, (Dj_append.1 hw.dj).1⟩

/-! parts of rows in segments -/
theorem dsW {α : Type} {f : α → Value} {l : List α} : ((l.map f).drop 0).take (l.map f).length = l.map f := by rw [List.drop_zero, List.take_length]
theorem dsW1 {α : Type} {f : α → Value} {l : List α} {r : List Value} : ((l.map f ++ r).drop 0).take (l.map f).length = l.map f := by rw [List.drop_zero, List.take_left]
theorem dsP {α : Type} {f : α → Value} {l : List α} {o m : Nat} (h : o + m ≤ l.length) : ((l.map f).drop o).take (((l.drop o).take m).map f).length = ((l.drop o).take m).map f := by
  rw [← List.map_drop, ← List.map_take]; congr 2; simp; omega
theorem dsP1 {α : Type} {f : α → Value} {l : List α} {r : List Value} {o m : Nat} (h : o + m ≤ l.length) : ((l.map f ++ r).drop o).take (((l.drop o).take m).map f).length = ((l.drop o).take m).map f := by
  rw [List.drop_append_of_le_length (by simp; omega), List.take_append_of_le_length (by simp; omega)]; exact dsP h
theorem dsA {l1 l2 vs : List Value} {k o i : Nat} (h1 : l1.length = k) (ho : o = k + i) (h : (l2.drop i).take vs.length = vs) : ((l1 ++ l2).drop o).take vs.length = vs := by
  subst ho; subst h1
  rw [← List.drop_drop, List.drop_left]; exact h
/-- slices of bytes, with what they hold -/
abbrev Sb := Value × List UInt8
def dP : Sb := (.slice none 0 0, [])
theorem getD_mem {α : Type} {l : List α} {i : Nat} {d : α} (h : i < l.length) : l.getD i d ∈ l := by
  rw [List.getD_eq_getElem?_getD, List.getElem?_eq_getElem h]; exact List.getElem_mem h

/-! ## pieces that are only read -/
def Ro (E : Nat → Prop) (w : World) (p : Res) : Prop := p.holds w ∧ ∀ k, p.fp k → ¬ E k
theorem Ro.st {c : Cx} {p : Res} {w : World} {H : List Res} (h : Ro c.E c.w0 p) (hw : St c w H) : p.holds w :=
  p.loc _ _ (fun k hk => hw.fr.block k (p.bnd _ h.1 k hk) (h.2 k hk)) h.1
theorem Ro.call {c : Cx} {p : Res} {w : World} {H0 Hr : List Res} (h : Ro c.E c.w0 p) (hw : St c w (H0 ++ Hr)) : Ro (Fs H0) w p :=
  ⟨h.st hw, fun k hk hf => by
    rcases hw.own k (Fs_append.2 (.inl hf)) with h1 | h1
    · exact h.2 k hk h1
    · have := p.bnd _ h.1 k hk; omega⟩
/-- out of a piece that is not handed on -/
theorem Ro.out {c : Cx} {p q : Res} {w : World} {H0 Hr : List Res} (hw : St c w (H0 ++ Hr)) (hq : q ∈ Hr) (h : q.holds w → p.holds w) (hf : ∀ k, p.fp k → q.fp k) : Ro (Fs H0) w p :=
  ⟨h (hw.mem (by simp [hq])), fun k hk h0 => (Dj_append.1 hw.dj).2.2 k h0 (Fs.of_mem hq (hf k hk))⟩
theorem Ro.nil {w : World} {p : Res} (h : p.holds w) : Ro (Fs []) w p := ⟨h, fun _ _ h => h⟩
/-- the cells of a slice, as a piece -/
def rd (v : Value) (vs : List Value) : Res where
  fp k := vs ≠ [] ∧ (adOf v).block = k
  holds w := RdS w v vs
  loc w w' h hr := by
    rcases hr with hr | ⟨ad, cp, rfl, hc, hr⟩
    · exact .inl hr
    · refine .inr ⟨ad, cp, rfl, hc, fun j u hj => ?_⟩
      have hb : (ad.add j).block = ad.block := by cases j <;> simp [Addr.add]
      have hne : vs ≠ [] := fun e => by subst e; cases hj
      have := h ad.block ⟨hne, rfl⟩
      have h2 := hr j u hj
      simp only [World.cell?, hb] at h2 ⊢
      rw [this]; exact h2
  bnd w hr k hk := by
    obtain ⟨hne, rfl⟩ := hk
    cases vs with
    | nil => exact (hne rfl).elim
    | cons u us =>
      have h0 := hr.cell (j := 0) (u := u) rfl
      rw [show (adOf v).add 0 = adOf v by simp [Addr.add]] at h0
      exact World.block_lt_of_cell? w _ h0
abbrev rdB (v : Value) (l : List UInt8) : Res := rd v (l.map B)
theorem Ro.rd {c : Cx} {v : Value} {vs : List Value} {w : World} {H : List Res} (h : Ro c.E c.w0 (YtfofkjajlfphjaaDoor.rd v vs)) (hw : St c w H) : RdS w v vs := h.st hw
theorem RdS.nil {w : World} : RdS w (.slice none 0 0) [] := .inl ⟨rfl, rfl⟩
theorem Ro.rnil {E : Nat → Prop} {w : World} : Ro E w (YtfofkjajlfphjaaDoor.rd (.slice none 0 0) []) := ⟨RdS.nil, fun _ hk => (hk.1 rfl).elim⟩
theorem RdS.cutB {w : World} {v : Value} {l : List UInt8} {lo hi : Nat} (h : RdB w v l) (hb : lo ≤ hi ∧ hi ≤ l.length) : RdB w (cutR v lo hi) ((l.drop lo).take (hi - lo)) := by
  have := RdS.cut h (lo := lo) (hi := hi) (by simpa using hb)
  rwa [← List.map_drop, ← List.map_take] at this
theorem RdS.cutBh {w : World} {v : Value} {l : List UInt8} {hi : Nat} (h : RdB w v l) (hb : hi ≤ l.length) : RdB w (cutR v 0 hi) (l.take hi) := by
  have := RdS.cutB h (lo := 0) (hi := hi) ⟨Nat.zero_le _, hb⟩
  simpa using this
theorem RdS.cutBl {w : World} {v : Value} {l : List UInt8} {lo : Nat} (h : RdB w v l) (hb : lo ≤ l.length) : RdB w (cutR v lo l.length) (l.drop lo) := by
  have := RdS.cutB h (lo := lo) (hi := l.length) ⟨hb, Nat.le_refl _⟩
  rwa [List.take_of_length_le (by simp)] at this
theorem Ro.cutB {E : Nat → Prop} {w : World} {v : Value} {l : List UInt8} {lo hi : Nat} (h : Ro E w (rdB v l)) (hb : lo ≤ hi ∧ hi ≤ l.length) : Ro E w (rdB (cutR v lo hi) ((l.drop lo).take (hi - lo))) :=
  ⟨RdS.cutB h.1 hb, fun k hk => h.2 k ⟨fun e => hk.1 (by simp at e; simp [e]), by rw [← hk.2, adOf_cut]⟩⟩
theorem Ro.cutBh {E : Nat → Prop} {w : World} {v : Value} {l : List UInt8} {hi : Nat} (h : Ro E w (rdB v l)) (hb : hi ≤ l.length) : Ro E w (rdB (cutR v 0 hi) (l.take hi)) := by
  have := Ro.cutB h (lo := 0) (hi := hi) ⟨Nat.zero_le _, hb⟩
  simpa using this
theorem Ro.cutBl {E : Nat → Prop} {w : World} {v : Value} {l : List UInt8} {lo : Nat} (h : Ro E w (rdB v l)) (hb : lo ≤ l.length) : Ro E w (rdB (cutR v lo l.length) (l.drop lo)) := by
  have := Ro.cutB h (lo := lo) (hi := l.length) ⟨hb, Nat.le_refl _⟩
  rwa [List.take_of_length_le (by simp)] at this
theorem cel_rdE {w : World} {b o m cp : Nat} {vs cs : List Value} {T : TypeId} (h : (cel b cs T).holds w) (hl : (cs.drop o).take vs.length = vs) (hm : m = vs.length) (hcp : m ≤ cp) : RdS w (.slice (some ⟨b, o, none⟩) m cp) vs := cel_rd h hl hm hcp
/-- a part of a row that is not handed on -/
theorem Ro.cel {c : Cx} {w : World} {H0 Hr : List Res} {b o m cp : Nat} {vs cs : List Value} {T : TypeId} (hw : St c w (H0 ++ Hr)) (hq : cel b cs T ∈ Hr) (hl : (cs.drop o).take vs.length = vs) (hm : m = vs.length) (hcp : m ≤ cp) : Ro (Fs H0) w (YtfofkjajlfphjaaDoor.rd (.slice (some ⟨b, o, none⟩) m cp) vs) :=
  Ro.out hw hq (fun h => cel_rd h hl hm hcp) (fun k hk => hk.2.symm)
theorem Ro.own {c : Cx} {w : World} {H0 Hr : List Res} {v : Value} {n : Nat} {xs : List Value} {e : TypeId} (hw : St c w (H0 ++ Hr)) (hq : own v n xs e 1 ∈ Hr) : Ro (Fs H0) w (YtfofkjajlfphjaaDoor.rd v xs) :=
  ⟨own_rdS (hw.mem (r := YtfofkjajlfphjaaDoor.own v n xs e 1) (by simp [hq])), fun k hk h0 => (Dj_append.1 hw.dj).2.2 k h0 (Fs.of_mem hq (by
    rcases own_cells (hw.mem (r := YtfofkjajlfphjaaDoor.own v n xs e 1) (by simp [hq])) with ⟨_, _, h⟩ | ⟨g, o, cap, rfl, _⟩
    · exact (hk.1 h).elim
    · rw [← hk.2]; rfl))⟩
theorem rd_take {w : World} {v : Value} {l : List UInt8} {m : Nat} (h : RdB w v l) (_hm : m ≤ l.length) : ∀ (j : Nat) (u : Value), ((l.take m).map B)[j]? = some u → w.cell? ((adOf v).add j) = some u := fun j u hj => h.cell (by
  rw [List.getElem?_map, List.getElem?_take] at hj
  split at hj
  · rw [List.getElem?_map]; exact hj
  · cases hj)

section
variable {c : Cx} {L : Sl} {H : List Res} {P : Program} {Q : Exit → Act → World → Prop} {K : Act → World → Prop} {n : Nat} {S : World → Prop} {dst : Option Tmp}
  {d : Nat} {rty : TypeId} {pos : String} {af : Array Edge} {gd : Option (Nat × Bool)} {t t' : TypeId} {x y z : Operand} {v u : Value} {k k' : IntKind} {xl xh : Operand}

/-- a slot told otherwise -/
theorem tk_re (t : Nat) (v v' : Value) (hl : lk t L = some v) (e : v = v') (h : TK c K ((t, v') :: L) H) : TK c K L H := fun a w ha hw =>
  h a w ⟨ha.df, ha.sz, fun s u hs => by
    rw [lk_cons] at hs
    cases hb : Nat.beq s t with
    | true => rw [hb] at hs; have := Nat.eq_of_beq_eq_true hb; subst this; simp at hs; subst hs; subst e; exact ha.at_ _ _ hl
    | false => rw [hb] at hs; exact ha.at_ _ _ hs⟩ hw
theorem tk_drawH {ops : Array Oper} {id : Nat} (H' : List Res) (X : List Nat) (hm : P.follows .mixedOrders = true)
    (h : TK c (AnyX P ops Q (fun w => St c w H') X ops.size (Array.replicate ops.size false)) L H) : TK c ((Code.region id ops true).wp P Q) L H := tk_draw _ X hm h
theorem hseg {b o : Nat} {cs pre vs post : List Value} {T : TypeId} (hm : cel b cs T ∈ H) (ho : pre.length = o) (e : cs = pre ++ (vs ++ post)) : ∀ w, St c w H → ∀ (j : Nat) (u : Value), vs[j]? = some u → w.cell? ((⟨b, o, none⟩ : Addr).add j) = some u := fun w hw j u hj => by
  rw [add_w]
  have hlt : j < vs.length := (List.getElem?_eq_some_iff.1 hj).1
  refine cel_cell (hw.mem hm) ?_
  subst e; subst ho
  rw [List.getElem?_append_right (by omega), List.getElem?_append_left (by omega)]
  simpa using hj
theorem a_storeE {H1 H2 : List Res} {b o : Nat} {cs cs' : List Value} {T : TypeId} (hx : ev L x = some (.pointer (some ⟨b, o, none⟩))) (hy : ev L y = some v) (ht : szB P t 1 = true) (hone : v.oneCell' = true)
    (hH : H = H1 ++ cel b cs T :: H2) (hlen : o < cs.length) (e : cs.set o v = cs') (h : TK c K L (H1 ++ cel b cs' T :: H2)) :
    TK c (fun a w => (⟨none, .store t x y, rty, pos, af, gd⟩ : Oper).wp P a w K Q) L H := a_store1 hx hy ht hone hH hlen (e ▸ h)
theorem a_storeLE {H1 H2 : List Res} {b o : Nat} {cs cs' pre mid post vs : List Value} {T : TypeId} (k : Nat) (hx : ev L x = some (.pointer (some ⟨b, o, none⟩))) (hy : ev L y = some (.agg vs.toArray)) (ht : szB P t k = true)
    (hH : H = H1 ++ cel b cs T :: H2) (hk : vs.length = k ∧ mid.length = k ∧ pre.length = o) (hone : ∀ u ∈ vs, u.oneCell' = true) (e : cs = pre ++ (mid ++ post)) (e' : cs' = pre ++ (vs ++ post)) (h : TK c K L (H1 ++ cel b cs' T :: H2)) :
    TK c (fun a w => (⟨none, .store t x y, rty, pos, af, gd⟩ : Oper).wp P a w K Q) L H := by
  obtain ⟨h1, h2, h3⟩ := hk
  have e1 : cs.take o ++ vs ++ cs.drop (o + k) = cs' := by
    subst e; subst e'; subst h3
    rw [List.take_left, ← List.drop_drop, List.drop_left, List.append_assoc]
    congr 2
    rw [← h2, List.drop_left]
  exact a_store (k := k) (vs := vs) hx hy rfl ht h1 hH hone (by subst e; simp; omega) (e1 ▸ h)

/-! ### words of 32 bits -/
theorem w_lt (a : UInt32) : a.toNat < 4294967296 := a.toNat_lt
theorem y_addW {a b : UInt32} (hx : ev L x = some (W4 a)) (hy : ev L y = some (W4 b)) : Y P n S L ⟨dst, .binOp .add t x y t', rty, pos, af, gd⟩ (W4 (a + b)) :=
  (y_add hx hy).cast (by
    rw [IntKind.wrap_u32]
    simp only [W4, UInt32.toNat_add]
    congr 1)
theorem y_xorW {a b : UInt32} (hx : ev L x = some (W4 a)) (hy : ev L y = some (W4 b)) : Y P n S L ⟨dst, .binOp .xor t x y t', rty, pos, af, gd⟩ (W4 (a ^^^ b)) :=
  (y_bits hx hy (by simp)).cast (by rw [u32_xor_nat _ _ (w_lt a) (w_lt b)]; simp only [W4, UInt32.toNat_xor])
theorem y_andW {a b : UInt32} (hx : ev L x = some (W4 a)) (hy : ev L y = some (W4 b)) : Y P n S L ⟨dst, .binOp .and t x y t', rty, pos, af, gd⟩ (W4 (a &&& b)) :=
  (y_bits hx hy (by simp)).cast (by rw [u32_and_nat _ _ (w_lt a) (w_lt b)]; simp only [W4, UInt32.toNat_and])
theorem y_orW {a b : UInt32} (hx : ev L x = some (W4 a)) (hy : ev L y = some (W4 b)) : Y P n S L ⟨dst, .binOp .or t x y t', rty, pos, af, gd⟩ (W4 (a ||| b)) :=
  (y_bits hx hy (by simp)).cast (by rw [u32_or_nat _ _ (w_lt a) (w_lt b)]; simp only [W4, UInt32.toNat_or])
theorem y_notW {a : UInt32} (hx : ev L x = some (W4 a)) : Y P n S L ⟨dst, .unOp .xor t x, rty, pos, af, gd⟩ (W4 (~~~ a)) :=
  (y_inv hx).cast (by
    have h := u32_xor_nat 4294967295 a.toNat (by decide) (w_lt a)
    have e1 : (if IntKind.u32.signed = true then -1 else IntKind.u32.max) = ((4294967295 : Nat) : Int) := by decide
    rw [e1, h]
    congr 2)
theorem y_shlW {a : UInt32} {m : Nat} (hx : ev L x = some (W4 a)) (hy : ev L y = some (.int k' (m : Int))) (hm : m < 32) :
    Y P n S L ⟨dst, .binOp .shl t x y t', rty, pos, af, gd⟩ (W4 (a <<< UInt32.ofNat m)) :=
  (y_shl hx hy (by omega)).cast (by
    have e : min ((m : Int)).toNat IntKind.u32.bits = m := by simp [IntKind.bits]; omega
    have e3 : (UInt32.ofNat m).toNat = m := by simp; omega
    rw [IntKind.wrap_u32, e]
    simp only [W4, UInt32.toNat_shiftLeft, e3, Nat.mod_eq_of_lt hm, Nat.shiftLeft_eq]
    congr 1)
theorem y_shrW {a : UInt32} {m : Nat} (hx : ev L x = some (W4 a)) (hy : ev L y = some (.int k' (m : Int))) (hm : m < 32) :
    Y P n S L ⟨dst, .binOp .shr t x y t', rty, pos, af, gd⟩ (W4 (a >>> UInt32.ofNat m)) :=
  (y_shr hx hy (by omega)).cast (by
    have e : min ((m : Int)).toNat IntKind.u32.bits = m := by simp [IntKind.bits]; omega
    have e3 : (UInt32.ofNat m).toNat = m := by simp; omega
    rw [e, fdiv_nat]
    simp only [W4, UInt32.toNat_shiftRight, e3, Nat.mod_eq_of_lt hm, Nat.shiftRight_eq_div_pow])
theorem y_conv8W {a : UInt8} (hx : ev L x = some (B a)) (hs : (P.underlying t).isSome = true) (hd : P.underlying t' = some (.int .u32)) : Y P n S L ⟨dst, .convert t t' x, rty, pos, af, gd⟩ (W4 a.toUInt32) :=
  (y_conv hx hs hd).cast (by
    rw [IntKind.wrap_u32]
    have := b_lt a
    simp only [W4, UInt8.toNat_toUInt32]
    congr 1; omega)
theorem y_convW8 {a : UInt32} (hx : ev L x = some (W4 a)) (hs : (P.underlying t).isSome = true) (hd : P.underlying t' = some (.int .u8)) : Y P n S L ⟨dst, .convert t t' x, rty, pos, af, gd⟩ (B a.toUInt8) :=
  (y_conv hx hs hd).cast (by
    rw [IntKind.wrap_u8]
    simp only [B, UInt32.toNat_toUInt8]
    congr 1)
theorem y_conv8u {a : UInt8} (hx : ev L x = some (B a)) (hs : (P.underlying t).isSome = true) (hd : P.underlying t' = some (.int .u64)) : Y P n S L ⟨dst, .convert t t' x, rty, pos, af, gd⟩ (.int .u64 ((a.toNat : Nat) : Int)) :=
  (y_conv hx hs hd).cast (by have := b_lt a; rw [wrap_u64 (by omega)])
theorem y_convS {a : Int} (hx : ev L x = some (.int k a)) (hs : (P.underlying t).isSome = true) (hd : P.underlying t' = some (.int k)) (hw : k.wrap a = a) : Y P n S L ⟨dst, .convert t t' x, rty, pos, af, gd⟩ (.int k a) := (y_conv hx hs hd).cast (by rw [hw])
theorem y_shlU {a m : Nat} (hx : ev L x = some (.int .u64 (a : Int))) (hy : ev L y = some (.int k' (m : Int))) (hm : m ≤ 64) (h : a * 2 ^ m < 18446744073709551616) : Y P n S L ⟨dst, .binOp .shl t x y t', rty, pos, af, gd⟩ (.int .u64 ((a * 2 ^ m : Nat) : Int)) :=
  (y_shl hx hy (by omega)).cast (by
    have e : min ((m : Int)).toNat IntKind.u64.bits = m := by simp [IntKind.bits]; omega
    have e2 : (a : Int) * 2 ^ m = ((a * 2 ^ m : Nat) : Int) := by simp
    rw [e, e2, wrap_u64 h])
theorem y_remU {a b : Nat} (hx : ev L x = some (.int .u64 (a : Int))) (hy : ev L y = some (.int .u64 (b : Int))) (h : 0 < b) : Y P n S L ⟨dst, .binOp .rem t x y t', rty, pos, af, gd⟩ (.int .u64 ((a % b : Nat) : Int)) :=
  (y_rem hx hy (by omega)).cast (by rw [Int.tmod_eq_emod_of_nonneg (by omega)]; rfl)
theorem y_lenSN {ad : Option Addr} {len cap : Nat} {e : TypeId} {n' : Nat} (hx : ev L x = some (.slice ad len cap)) (ht : P.underlying t = some (.slice e)) (hn : len = n' := by rfl) :
    Y P n S L ⟨dst, .call { callee := .builtin .len, args := #[x], argTypes := #[t] }, rty, pos, af, gd⟩ (I ((n' : Nat) : Int)) := hn ▸ y_lenS hx ht
theorem y_lenRN {w0 : World} {vs : List Value} {e : TypeId} {n' : Nat} (hx : ev L x = some v) (hv : RdS w0 v vs) (ht : P.underlying t = some (.slice e)) (hn : vs.length = n') :
    Y P n S L ⟨dst, .call { callee := .builtin .len, args := #[x], argTypes := #[t] }, rty, pos, af, gd⟩ (I ((n' : Nat) : Int)) := hn ▸ y_lenR hx hv ht
theorem y_minN {a b : Nat} {ty : Array TypeId} (hx : ev L x = some (I (a : Int))) (hy : ev L y = some (I (b : Int))) :
    Y P n S L ⟨dst, .call { callee := .builtin .min, args := #[x, y], argTypes := ty }, rty, pos, af, gd⟩ (I ((min a b : Nat) : Int)) := (y_minI hx hy).cast (by
      congr 1
      split <;> omega)

/-! ### cuts told in numbers -/
theorem y_cutAN1 {b o : Nat} {il ih : Int} (m sz : Nat) (lo hi : Nat) (hx : ev L x = some (.pointer (some ⟨b, o, none⟩))) (hl : ev L xl = some (.int k il)) (hh : ev L xh = some (.int k' ih))
    (ht : arrB P t m 1 = true) (hb : il = (lo : Int) ∧ ih = (hi : Int) ∧ lo ≤ hi ∧ hi ≤ m ∧ lo < m) :
    Y P n S L ⟨dst, .slice t x (some xl) (some xh) none, rty, pos, af, gd⟩ (.slice (some ⟨b, o + lo, none⟩) (hi - lo) (m - lo)) := (y_cutAN m 1 lo hi hx hl hh ht hb).cast (by rw [Nat.mul_one])
theorem y_cutAhN {b o : Nat} {ih : Int} (m sz : Nat) (hi : Nat) (hx : ev L x = some (.pointer (some ⟨b, o, none⟩))) (hh : ev L xh = some (.int k' ih))
    (ht : arrB P t m sz = true) (hb : ih = (hi : Int) ∧ hi ≤ m) :
    Y P n S L ⟨dst, .slice t x none (some xh) none, rty, pos, af, gd⟩ (.slice (some ⟨b, o, none⟩) hi m) := by
  obtain ⟨rfl, h2⟩ := hb
  refine (y_cutAh hx hh ht (by omega)).cast ?_
  rw [Int.toNat_natCast]
theorem y_cutAlN {b o : Nat} {il : Int} (m sz : Nat) (lo : Nat) (hx : ev L x = some (.pointer (some ⟨b, o, none⟩))) (hl : ev L xl = some (.int k il))
    (ht : arrB P t m sz = true) (hb : il = (lo : Int) ∧ lo < m) :
    Y P n S L ⟨dst, .slice t x (some xl) none none, rty, pos, af, gd⟩ (.slice (some ⟨b, o + lo * sz, none⟩) (m - lo) (m - lo)) := by
  obtain ⟨rfl, h2⟩ := hb
  refine (y_cutAl hx hl ht (by omega)).cast ?_
  have e : ¬ m = lo := by omega
  simp only [cutAd, Int.toNat_natCast, if_neg e, Option.map_some, add_w]
theorem y_cutAlN1 {b o : Nat} {il : Int} (m sz : Nat) (lo : Nat) (hx : ev L x = some (.pointer (some ⟨b, o, none⟩))) (hl : ev L xl = some (.int k il))
    (ht : arrB P t m 1 = true) (hb : il = (lo : Int) ∧ lo < m) :
    Y P n S L ⟨dst, .slice t x (some xl) none none, rty, pos, af, gd⟩ (.slice (some ⟨b, o + lo, none⟩) (m - lo) (m - lo)) := (y_cutAlN m 1 lo hx hl ht hb).cast (by rw [Nat.mul_one])
theorem y_cutShN {ad : Option Addr} {len cap : Nat} {ih : Int} (sz hi : Nat) (hx : ev L x = some (.slice ad len cap)) (hh : ev L xh = some (.int k' ih))
    (ht : sliB P t sz = true) (hb : ih = (hi : Int) ∧ hi ≤ cap) :
    Y P n S L ⟨dst, .slice t x none (some xh) none, rty, pos, af, gd⟩ (.slice ad hi cap) := by
  obtain ⟨rfl, h2⟩ := hb
  refine (y_cutSh hx hh ht (by omega)).cast ?_
  rw [Int.toNat_natCast]
theorem y_cutRBlh {l : List UInt8} {w0 : World} {il ih : Int} (lo hi : Nat) (hx : ev L x = some v) (hl : ev L xl = some (.int k il)) (hh : ev L xh = some (.int k' ih)) (hv : RdB w0 v l) (ht : sliB P t 1 = true)
    (hb : lo ≤ hi ∧ hi ≤ l.length) (e1 : il = (lo : Int) := by rfl) (e2 : ih = (hi : Int) := by rfl) : Y P n S L ⟨dst, .slice t x (some xl) (some xh) none, rty, pos, af, gd⟩ (cutR v lo hi) :=
  y_cutR lo hi hx hl hh hv ht (by rw [List.length_map]; exact ⟨e1, e2, hb⟩)
theorem y_cutRBh {l : List UInt8} {w0 : World} {ih : Int} (hi : Nat) (hx : ev L x = some v) (hh : ev L xh = some (.int k' ih)) (hv : RdB w0 v l) (ht : sliB P t 1 = true)
    (hb : hi ≤ l.length) (e2 : ih = (hi : Int) := by rfl) : Y P n S L ⟨dst, .slice t x none (some xh) none, rty, pos, af, gd⟩ (cutR v 0 hi) :=
  y_cutRh hi hx hh hv ht (by rw [List.length_map]; exact ⟨e2, hb⟩)
theorem y_cutRBl {l : List UInt8} {w0 : World} {il : Int} (lo : Nat) (hx : ev L x = some v) (hl : ev L xl = some (.int k il)) (hv : RdB w0 v l) (ht : sliB P t 1 = true)
    (hb : lo ≤ l.length) (e1 : il = (lo : Int) := by rfl) : Y P n S L ⟨dst, .slice t x (some xl) none none, rty, pos, af, gd⟩ (cutR v lo l.length) :=
  (y_cutRl lo hx hl hv ht (by rw [List.length_map]; exact ⟨e1, hb⟩)).cast (by rw [List.length_map])
theorem y_s2aR {l : List UInt8} {w0 : World} {m : Nat} {e : TypeId} (hx : ev L x = some v) (ht : P.underlying t = some (.array m e)) (hv : RdB w0 v l) (hm : m ≤ l.length) (h0 : 0 < m := by decide) :
    Y P n S L ⟨dst, .sliceToArrayPointer t x, rty, pos, af, gd⟩ (.pointer (some (adOf v))) := by
  rcases hv with ⟨rfl, h⟩ | ⟨ad, cap, rfl, _, _⟩
  · have := congrArg List.length h; rw [List.length_map] at this; simp only [List.length_nil] at this; omega
  · exact y_s2a hx ht (by simpa using hm)

/-! ### strings -/
theorem y_catT {l m : List UInt8} (hx : ev L x = some (Str l)) (hy : ev L y = some (Str m)) (h : l.length + m.length ≤ 9223372036854775807) : Y P n S L ⟨dst, .binOp .add t x y t', rty, pos, af, gd⟩ (Str (l ++ m)) := fun q w ha _ => by
  have h1 := ha.ev hx; have h2 := ha.ev hy
  have e : ¬ ((((ByteArray.mk l.toArray).size + (ByteArray.mk m.toArray).size : Nat) : Int) > IntKind.i64.max) := by
    have e0 : IntKind.i64.max = 9223372036854775807 := by decide
    rw [e0]; simp [ByteArray.size]; omega
  have e2 : ByteArray.mk l.toArray ++ ByteArray.mk m.toArray = ByteArray.mk (l ++ m).toArray := by
    apply ByteArray.ext; simp
  have e3 : (binOp .add t (Str l) (Str m)) = Op.stringOp .add ⟨l.toArray⟩ ⟨m.toArray⟩ := rfl
  have e4 : (Op.stringOp .add ⟨l.toArray⟩ ⟨m.toArray⟩).run P w = .ok (Str (l ++ m)) w := by
    simp only [Op.stringOp, if_neg e, e2]; rfl
  simp only [execOp, h1, h2, eqGuard_at_string, e3]
  rw [Sem.run_bind, Sem.run_bind, Sem.run_pure, Result.andThen, e4]; rfl
theorem ext_l {l : List UInt8} {lo hi : Nat} (h : hi ≤ l.length) : (ByteArray.mk l.toArray).extract lo hi = ByteArray.mk ((l.take hi).drop lo).toArray := by
  apply ByteArray.ext
  rw [ByteArray.data_extract]
  simp [List.extract_eq_take_drop, List.drop_take]
theorem y_cutTlh {l : List UInt8} {il ih : Int} {lo hi : Nat} (hx : ev L x = some (Str l)) (hl : ev L xl = some (.int k il)) (hh : ev L xh = some (.int k' ih)) (ht : P.underlying t = some .string) (hb : lo ≤ hi ∧ hi ≤ l.length) (e1 : il = (lo : Int) := by rfl) (e2 : ih = (hi : Int) := by rfl) :
    Y P n S L ⟨dst, .slice t x (some xl) (some xh) none, rty, pos, af, gd⟩ (Str ((l.drop lo).take (hi - lo))) := fun q w ha hs => by
  have h1 := ha.ev hx; have h2 := ha.ev hl; have h3 := ha.ev hh
  subst e1; subst e2
  have e0 : (ByteArray.mk l.toArray).size = l.length := by simp [ByteArray.size]
  have b1 : (Instr.sliceBound (.int k' (hi : Int)) l.length .sliceAlen).run P w = .ok hi w := by have := sliceBound_ok (P := P) (k := k') (i := (hi : Int)) (m := l.length) (code := .sliceAlen) (w := w) (by omega); simpa using this
  have b2 : (Instr.sliceBound (.int k (lo : Int)) hi .sliceB).run P w = .ok lo w := by have := sliceBound_ok (P := P) (k := k) (i := (lo : Int)) (m := hi) (code := .sliceB) (w := w) (by omega); simpa using this
  have e3 : (l.drop lo).take (hi - lo) = (l.take hi).drop lo := by rw [List.drop_take]
  rw [e3]
  simp [execOp, h1, h2, h3, Instr.sliceAt, underlying, ht, Instr.slice, Instr.sliceBounds, e0, b1, b2, ext_l hb.2]
theorem y_cutTh {l : List UInt8} {ih : Int} {hi : Nat} (hx : ev L x = some (Str l)) (hh : ev L xh = some (.int k' ih)) (ht : P.underlying t = some .string) (hb : hi ≤ l.length) (e2 : ih = (hi : Int) := by rfl) :
    Y P n S L ⟨dst, .slice t x none (some xh) none, rty, pos, af, gd⟩ (Str (l.take hi)) := fun q w ha hs => by
  have h1 := ha.ev hx; have h3 := ha.ev hh
  subst e2
  have e0 : (ByteArray.mk l.toArray).size = l.length := by simp [ByteArray.size]
  have b1 : (Instr.sliceBound (.int k' (hi : Int)) l.length .sliceAlen).run P w = .ok hi w := by have := sliceBound_ok (P := P) (k := k') (i := (hi : Int)) (m := l.length) (code := .sliceAlen) (w := w) (by omega); simpa using this
  simp [execOp, h1, h3, Instr.sliceAt, underlying, ht, Instr.slice, Instr.sliceBounds, e0, b1, ext_l hb]
theorem y_cutTl {l : List UInt8} {il : Int} {lo : Nat} (hx : ev L x = some (Str l)) (hl : ev L xl = some (.int k il)) (ht : P.underlying t = some .string) (hb : lo ≤ l.length) (e1 : il = (lo : Int) := by rfl) :
    Y P n S L ⟨dst, .slice t x (some xl) none none, rty, pos, af, gd⟩ (Str (l.drop lo)) := fun q w ha hs => by
  have h1 := ha.ev hx; have h2 := ha.ev hl
  subst e1
  have e0 : (ByteArray.mk l.toArray).size = l.length := by simp [ByteArray.size]
  have b2 : (Instr.sliceBound (.int k (lo : Int)) l.length .sliceB).run P w = .ok lo w := by have := sliceBound_ok (P := P) (k := k) (i := (lo : Int)) (m := l.length) (code := .sliceB) (w := w) (by omega); simpa using this
  simp [execOp, h1, h2, Instr.sliceAt, underlying, ht, Instr.slice, Instr.sliceBounds, e0, b2, ext_l (Nat.le_refl l.length)]
theorem y_ixVM {α : Type} {f : α → Value} {l : List α} {d0 : α} {i len : Nat} {e : TypeId} (hx : ev L x = some (.agg (l.map f).toArray)) (hy : ev L y = some (.int k (i : Int))) (ht : P.underlying t = some (.array len e)) (he : scB P e = true) (hz : ∀ w, (Go.sizeOf e).run P w = .ok 1 w)
    (hi : i < len) (hl : i < l.length) : Y P n S L ⟨dst, .index t x y, rty, pos, af, gd⟩ (f (l.getD i d0)) := y_ixV hx hy ht he hz (by omega) (by
      have := gM (f := f) (d := d0) hl
      simpa using this)

/-! ### slice literals of one-cell elements -/
def ixs : Nat → List Value → List (Nat × Value)
  | _, [] => []
  | n, v :: vs => (n, v) :: ixs (n + 1) vs
theorem fill_ixs : ∀ (vs : List Value) (n : Nat) (cs : Array Value), (∀ u ∈ vs, u.oneCell' = true) → n + vs.length ≤ cs.size →
    Instr.fill (fun i => some (i * 1, 1)) cs (ixs n vs) = some (cs.toList.take n ++ vs ++ cs.toList.drop (n + vs.length)).toArray
  | [], n, cs, _, _ => by simp [ixs, Instr.fill]
  | v :: vs, n, cs, h1, hn => by
    have hv : v.cells = #[v] := by
      have := h1 v (by simp)
      cases v <;> first | rfl | simp [Value.oneCell'] at this
    simp only [List.length_cons] at hn
    have hlt : n < cs.size := by omega
    have ih := fill_ixs vs (n + 1) (cs.setIfInBounds n v) (fun u hu => h1 u (by simp [hu])) (by simp; omega)
    have e1 : ¬ ((decide (v.cells.size ≠ 1) || decide (n * 1 + v.cells.size > cs.size)) = true) := by rw [hv]; simp; omega
    simp only [ixs, Instr.fill]
    rw [if_neg e1]
    have e2 : (v.cells.zipIdx.foldl (fun cs (p : Value × Nat) => cs.setIfInBounds (n * 1 + p.2) p.1) cs) = cs.setIfInBounds n v := by rw [hv]; simp
    rw [e2, ih]
    congr 2
    rw [Array.toList_setIfInBounds]
    have e3 : (cs.toList.set n v).take (n + 1) = cs.toList.take n ++ [v] := by
      rw [List.take_add_one]
      rw [List.take_set_of_le (by omega)]
      simp [hlt]
    have e4 : (cs.toList.set n v).drop (n + 1 + vs.length) = cs.toList.drop (n + (v :: vs).length) := by
      rw [List.drop_set, if_pos (by omega)]
      congr 1; simp; omega
    rw [e3, e4]; simp
theorem run_slitN {w : World} {e : TypeId} {bytes : Nat} {vs : List Value} (he : elB P t e 1 bytes) (h1 : ∀ u ∈ vs, u.oneCell' = true) (hs : vs.length ≤ 16777216) :
    (Instr.buildSlice t vs.length (ixs 0 vs).toArray).run P w = .ok (.slice (some ⟨w.heap.size, 0, none⟩) vs.length vs.length) { w with heap := w.heap.push (.cells vs.toArray e) } := by
  obtain ⟨ht, i, z, hi, hz, hzs, hsz, _, _⟩ := he
  have hb : ¬ (vs.length > 2 ^ 24) := by omega
  have key : ∀ cs : Array Value, cs.size = vs.length → Instr.fill (fun i => some (i * 1, 1)) cs (ixs 0 vs) = some vs.toArray := fun cs hc => by
    rw [fill_ixs vs 0 cs h1 (by omega)]
    have : cs.toList.drop (0 + vs.length) = [] := by apply List.drop_of_length_le; simp; omega
    rw [this]; simp
  by_cases h0 : vs.length = 0
  · have : vs = [] := List.eq_nil_of_length_eq_zero h0
    subst this
    have e0 : Array.range 0 = #[] := rfl
    simp [Instr.buildSlice, underlying, ht, Go.sizeOf, typeInfo, hi, hsz, Instr.fill, ixs, newRow, e0]
  · have k2 := key ((Array.range vs.length).map (fun j => z.cells[j % z.cells.size]!)) (by simp)
    simp only [Nat.mul_one] at k2
    simp [Instr.buildSlice, underlying, ht, Go.sizeOf, typeInfo, hi, hsz, zeroValue, hz, h0, hb, newRow, k2]
theorem a_slitN {xs : List (Nat × Operand)} {vs : List Value} {e : TypeId} {bytes m : Nat} (hx : evp L xs = some (ixs 0 vs)) (h1 : ∀ u ∈ vs, u.oneCell' = true) (he : elB P t e 1 bytes) (hn : Nat.blt d c.n = true) (hm : vs.length = m) (hs : m ≤ 16777216)
    (h : ∀ b, TK c K ((d, .slice (some ⟨b, 0, none⟩) m m) :: L) (cel b vs e :: H)) :
    TK c (fun a w => (⟨some d, .buildSlice t m xs.toArray, rty, pos, af, gd⟩ : Oper).wp P a w K Q) L H := by
  subst hm
  exact a_slit hx hn (fun _ => run_slitN he h1 hs) h
/-- copy of a readable slice's cells into a row of one's own -/
theorem a_copyR {H1 H2 : List Res} {b o dl cap m : Nat} {cs cs' pre mid post vs us : List Value} {T e : TypeId} (hx : ev L x = some (.slice (some ⟨b, o, none⟩) dl cap)) (hy : ev L y = some u) (ht : P.underlying t = some (.slice e)) (hz : szB P e 1 = true) (hn : Nat.blt d c.n = true)
    (hH : H = H1 ++ cel b cs T :: H2) (hu : ∀ w, St c w H → RdS w u us) (hm : m = min us.length dl) (hvs : vs = us.take m) (h1 : ∀ q ∈ vs, q.oneCell' = true) (hk : mid.length = m ∧ pre.length = o) (e1 : cs = pre ++ (mid ++ post)) (e2 : cs' = pre ++ (vs ++ post)) (h : TK c K ((d, I ((m : Nat) : Int)) :: L) (H1 ++ cel b cs' T :: H2)) :
    TK c (fun a w => (⟨some d, .call { callee := .builtin .copy, args := #[x, y], argTypes := #[t, t'] }, rty, pos, af, gd⟩ : Oper).wp P a w K Q) L H := fun a w ha hw => by
  have hr := hu w hw
  subst hH
  have h2 := ha.ev hx; have h3 := ha.ev hy
  obtain ⟨fr, hb, hf⟩ := hw.mem (r := cel b cs T) (by simp)
  have hvl : vs.length = m := by rw [hvs]; simp; omega
  obtain ⟨w', h4, h5, h6⟩ := run_storeCells P b T vs o 0 w cs fr hb hf h1 (by rw [e1]; simp; omega)
  have e5 : cs.take o ++ vs ++ cs.drop (o + vs.length) = cs' := by
    obtain ⟨k1, k2⟩ := hk
    subst e1; subst e2; subst k2
    rw [List.take_left, ← List.drop_drop, List.drop_left, List.append_assoc]
    congr 2
    rw [hvl, ← k1, List.drop_left]
  have hrun : (execOp a.eval (⟨some d, .call { callee := .builtin .copy, args := #[x, y], argTypes := #[t, t'] }, rty, pos, af, gd⟩ : Oper)).run P w = .ok (.value (I ((m : Nat) : Int))) w' := by
    rcases hr with ⟨rfl, rfl⟩ | ⟨ad, cp, rfl, hc, hcell⟩
    · have hm0 : m = 0 := by simp at hm; exact hm
      subst hm0
      have hv0 : vs = [] := List.eq_nil_of_length_eq_zero hvl
      subst hv0
      simp [storeCells] at h4
      have h4 := h4
      simp [execOp, resolve, h2, h3, invoke, builtin, Builtin.copy_, underlying, ht, Builtin.lenOf, szB_run hz, Builtin.firstCells, loadCells, loadCellsFrom, storeCells, goInt]
      exact h4
    · have hmin : Nat.min us.length dl = m := hm.symm
      have hfc := run_firstCells_some (P := P) w 1 m ad us.length cp vs (by omega) (fun j q hj => hcell j q (by
        rw [hvs, List.getElem?_take] at hj
        split at hj
        · exact hj
        · cases hj))
      simp only [execOp, resolve, invoke, builtin]
      simp [h2, h3, Builtin.copy_, underlying, ht, Builtin.lenOf, hmin, szB_run hz, hfc, h4, goInt]
  change Oper.upon P _ a K Q ((execOp a.eval _).run P w)
  rw [hrun, Oper.upon_value]
  refine h _ _ (ha.put hn _) (St.perm (St.turn (N := [cel b cs' T]) hw h6 ⟨⟨fr, by simpa [e5] using h5, ?_⟩, trivial⟩ ⟨fun _ _ h => h, trivial⟩ ?_) perm_mid)
  · have : cs'.length = cs.length := by rw [e1, e2]; simp; omega
    rw [this]; exact hf
  · intro j hj
    rcases hj with hj | hj
    · exact .inl hj
    · exact hj.elim
end
end Go.Proofs.YtfofkjajlfphjaaDoor

/- Owned slices seen as lists: made, appended to, stored into; bytes of a string. Own work for this project; no program in sight. -/
namespace Go.Proofs.YtfofkjajlfphjaaDoor
open Go Go.RowKit
abbrev ownM {α : Type} (f : α → Value) (v : Value) (l : List α) (T : TypeId) : Res := own v l.length (l.map f) T 1
theorem ownM_cast {α : Type} {f : α → Value} {v : Value} {l m : List α} {T : TypeId} (h : l = m) : ownM f v l T = ownM f v m T := by rw [h]
section
variable {c : Cx} {L : Sl} {H : List Res} {P : Program} {Q : Exit → Act → World → Prop} {K : Act → World → Prop} {n : Nat} {S : World → Prop} {dst : Option Tmp}
  {d : Nat} {rty : TypeId} {pos : String} {af : Array Edge} {gd : Option (Nat × Bool)} {t t' : TypeId} {x y z : Operand} {v u : Value} {k k' : IntKind} {α : Type} {f : α → Value}
def mkB (P : Program) (t e : TypeId) (z : Value) (bytes : Nat) : Prop := P.underlying t = some (.slice e) ∧ ∃ i, P.info? e = some i ∧ i.zero = some z ∧ i.size = 1 ∧ i.bytes = bytes
theorem a_makeM {e : TypeId} {m bytes : Nat} {z : α} (hx : ev L x = some (I (m : Int))) (hy : ev L y = some (I (m : Int))) (hm : mkB P t e (f z) bytes) (hone : (f z).oneCell' = true) (hn : Nat.blt d c.n = true)
    (hb : m ≤ 281474976710656 ∧ bytes * m ≤ 281474976710656) (h : ∀ b, TK c K ((d, .slice (some ⟨b, 0, none⟩) m m) :: L) (cel b ((List.replicate m z).map f) e :: H)) :
    TK c (fun a w => (⟨some d, .makeSlice t x y, rty, pos, af, gd⟩ : Oper).wp P a w K Q) L H :=
  a_make hx hy hm.1 hm.2 hone hn hb (fun b => by rw [← List.map_replicate]; exact h b)
theorem a_appM {H1 H2 : List Res} {l m : List α} {T : TypeId} {bytes : Nat} (hx : ev L x = some v) (hy : ev L y = some u) (he : elB P t T 1 bytes) (hn : Nat.blt d c.n = true)
    (hH : H = H1 ++ ownM f v l T :: H2) (hr : ∀ w, St c w H → RdS w u (m.map f)) (h1 : ∀ a, (f a).oneCell' = true)
    (hb : l.length + m.length ≤ 140737488355328 ∧ (l.length + m.length) * bytes ≤ 140737488355328) (h : ∀ v', TK c K ((d, v') :: L) (H1 ++ ownM f v' (l ++ m) T :: H2)) :
    TK c (fun a w => (⟨some d, .call { callee := .builtin .append, args := #[x, y], argTypes := #[t, t] }, rty, pos, af, gd⟩ : Oper).wp P a w K Q) L H :=
  a_appendR (n := l.length) (xs := l.map f) (news := m.map f) hx hy he hn hH hr (fun u hu => by obtain ⟨a, _, rfl⟩ := List.mem_map.1 hu; exact h1 a) (by simpa using hb)
    (fun v' => by have := h v'; simp only [ownM, List.length_append, List.map_append] at this; simpa using this)
theorem tk_ownM0 (T : TypeId) (h : TK c K L (ownM f (.slice none 0 0) [] T :: H)) : TK c K L H := tk_own0 T h
theorem tk_celM {H1 H2 : List Res} {g m : Nat} {l : List α} {T T' : TypeId} (hH : H = H1 ++ cel g (l.map f) T' :: H2) (hl : l.length = m) (hm : m ≤ maxLen)
    (h : TK c K L (H1 ++ ownM f (.slice (some ⟨g, 0, none⟩) m m) l T :: H2)) : TK c K L H := by
  subst hl
  exact tk_celOwn (n := l.length) hH (by simp) (by simpa using hm) (by rw [List.length_map, List.take_of_length_le (by simp)]; exact h)
theorem a_storeM {H1 H2 : List Res} {l : List α} {i : Nat} {q : α} {T : TypeId} (hx : ev L x = some (.pointer (some ((adOf v).add i)))) (hy : ev L y = some (f q)) (hone : (f q).oneCell' = true) (ht : szB P t 1 = true)
    (hH : H = H1 ++ ownM f v l T :: H2) (hi : i < l.length) (h : TK c K L (H1 ++ ownM f v (l.set i q) T :: H2)) :
    TK c (fun a w => (⟨none, .store t x y, rty, pos, af, gd⟩ : Oper).wp P a w K Q) L H :=
  a_storeOwn (n := l.length) (xs := l.map f) hx hy hone ht hH hi (by
    have := h
    simp only [ownM, List.length_set] at this
    rw [List.map_set] at this; exact this)
/-- s[m:] of an owned slice is owned -/
theorem own_cut {w : World} {v : Value} {l : List α} {m : Nat} {T : TypeId} (h : (ownM f v l T).holds w) (hm : m ≤ l.length) : (ownM f (cutR v m l.length) (l.drop m) T).holds w ∧ ∀ k, (cutR v m l.length).ownBlock = some k → v.ownBlock = some k := by
  obtain ⟨h1, h2⟩ := h
  rcases h2 with ⟨rfl, h0⟩ | ⟨g, o, cap, cur, fr, T', rfl, hg, hf, hc, hcm, hcs, ht⟩
  · have : l = [] := List.eq_nil_of_length_eq_zero h0
    subst this
    obtain rfl : m = 0 := by simpa using hm
    refine ⟨⟨by simp, .inl ⟨by simp [cutR, cutAd], rfl⟩⟩, fun k hk => by simp [cutR, cutAd, Value.ownBlock] at hk⟩
  · simp only [cutR, cutAd]
    by_cases e : cap = m
    · have hl : l.drop m = [] := List.drop_eq_nil_of_le (by omega)
      rw [if_pos e]
      refine ⟨⟨by simp [hl], .inr ⟨g, o, cap - m, cur, fr, T', by rw [hl]; congr 1; simp; omega, hg, hf, by rw [hl]; simp, by omega, by omega, by rw [hl]; simp⟩⟩, fun k hk => by simpa [Value.ownBlock] using hk⟩
    · rw [if_neg e]
      refine ⟨⟨by simp, .inr ⟨g, o + m, cap - m, cur, fr, T', by simp [add_w], hg, hf, by simp; omega, by omega, by omega, ?_⟩⟩, fun k hk => by simpa [Value.ownBlock, add_w] using hk⟩
      rw [Nat.mul_one] at ht ⊢
      rw [List.length_drop, List.map_drop, ← ht, List.drop_take, List.drop_drop]
theorem tk_ownCut {H1 H2 : List Res} {l : List α} (m : Nat) {T : TypeId} (hH : H = H1 ++ ownM f v l T :: H2) (hm : m ≤ l.length) (h : TK c K L (H1 ++ ownM f (cutR v m l.length) (l.drop m) T :: H2)) : TK c K L H := fun a w ha hw => by
  subst hH
  obtain ⟨h1, h2⟩ := own_cut (hw.mem (r := ownM f v l T) (by simp)) hm
  exact h a w ha (St.perm (St.turn (N := [ownM f (cutR v m l.length) (l.drop m) T]) hw (Fo.refl _ _) ⟨h1, trivial⟩ ⟨fun _ _ h => h, trivial⟩ (fun k hk => by
    rcases hk with hk | hk
    · exact .inl (h2 k hk)
    · exact hk.elim)) perm_mid)
/-- []byte of a string, owned -/
theorem a_s2bO {e : TypeId} {l : List UInt8} (hx : ev L x = some (Str l)) (hs : P.underlying t = some .string) (hd : P.underlying t' = some (.slice e)) (he : P.underlying e = some (.int .u8)) (hn : Nat.blt d c.n = true) (hl : l.length ≤ maxLen)
    (h : ∀ v, TK c K ((d, v) :: L) (ownB v l e :: H)) :
    TK c (fun a w => (⟨some d, .convert t t' x, rty, pos, af, gd⟩ : Oper).wp P a w K Q) L H := fun a w ha hw => by
  have h1 := ha.ev hx
  have hr := Lib.run_convert_string_bytes w t t' e ⟨l.toArray⟩ hs hd he
  have e0 : (ByteArray.mk l.toArray).size = l.length := by simp [ByteArray.size]
  have e1 : (execOp a.eval (⟨some d, .convert t t' x, rty, pos, af, gd⟩ : Oper)).run P w = .ok (.value (.slice (some ⟨w.heap.size, 0, none⟩) l.length (grownCap w l.length 0 e))) (Lib.bytesWorld w e ⟨l.toArray⟩) := by
    rw [e0] at hr
    simp [execOp, h1, hr]
  change Oper.upon P _ a K Q ((execOp a.eval _).run P w)
  rw [e1, Oper.upon_value]
  have hge := grownCap_ge w l.length 0 e
  have hcm := grownCap_le_maxLen w l.length 0 e hl
  have hcs : (Lib.bytesCells w e ⟨l.toArray⟩).toList = l.map B ++ List.replicate (grownCap w l.length 0 e - l.length) (.int .u8 0) := by
    simp [Lib.bytesCells, e0]
  have hsz : (Lib.bytesCells w e ⟨l.toArray⟩).size = grownCap w l.length 0 e := by
    rw [← Array.length_toList, hcs]; simp; omega
  refine h _ _ _ (ha.put hn _) (St.new (w' := Lib.bytesWorld w e ⟨l.toArray⟩) (N := [ownB (.slice (some ⟨w.heap.size, 0, none⟩) l.length (grownCap w l.length 0 e)) l e]) hw ⟨rfl, rfl, rfl, by rw [Lib.bytesWorld_size]; omega, fun k hk _ => Lib.bytesWorld_at_old w e _ k hk⟩
    ⟨⟨by simp, .inr ⟨w.heap.size, 0, _, Lib.bytesCells w e ⟨l.toArray⟩, _, _, rfl, Lib.bytesWorld_at_new w e _, .inl (by rw [hsz]; exact Nat.le_refl _), hge, hcm, by rw [hsz]; omega, ?_⟩⟩, trivial⟩ ⟨fun _ _ h => h, trivial⟩ (fun k hk => ?_))
  · rw [hcs, Nat.mul_one, List.drop_zero, List.take_left' (by simp)]
  · rcases hk with hk | hk
    · have : some w.heap.size = some k := hk
      cases this; exact Nat.le_refl _
    · exact hk.elim
theorem y_neB {a b : Bool} (hx : ev L x = some (.bool a)) (hy : ev L y = some (.bool b)) (ht : P.underlying t = some .bool) : Y P n S L ⟨dst, .binOp .neq t x y t', rty, pos, af, gd⟩ (.bool (a != b)) := fun q w ha _ => by
  have h1 := ha.ev hx; have h2 := ha.ev hy
  have e1 : (binOp .neq t (.bool a) (.bool b)) = (do pure (Value.bool (!(← Op.equal t (.bool a) (.bool b))))) := rfl
  have e2 : (Op.equal t (.bool a) (.bool b)).run P w = .ok (a == b) w := run_equalIn_bool (d := 9999) ht
  simp only [execOp, h1, h2, eqGuard_at_bool, e1]
  rw [Sem.run_bind, Sem.run_bind, Sem.run_pure, Result.andThen, Sem.run_bind, e2]; rfl
theorem bne_iff {p q : Prop} [Decidable p] [Decidable q] (h : p ↔ q) : (decide p != decide q) = false := by simp [h]
theorem beq_iff {p q : Prop} [Decidable p] [Decidable q] (h : p ↔ q) : (decide p == decide q) = true := by simp [h]
theorem y_min3 {a b e : Nat} {ty : Array TypeId} (hx : ev L x = some (I (a : Int))) (hy : ev L y = some (I (b : Int))) (hz : ev L z = some (I (e : Int))) :
    Y P n S L ⟨dst, .call { callee := .builtin .min, args := #[x, y, z], argTypes := ty }, rty, pos, af, gd⟩ (I ((min (min a b) e : Nat) : Int)) := fun q w ha _ => by
  have h1 := ha.ev hx; have h2 := ha.ev hy; have h3 := ha.ev hz
  simp [execOp, resolve, h1, h2, h3, invoke, builtin, Builtin.min_, Builtin.min2, List.foldlM]
  (repeat' split) <;> omega
theorem y_mulU {a b : Nat} (hx : ev L x = some (.int .u64 (a : Int))) (hy : ev L y = some (.int .u64 (b : Int))) (h : a * b < 18446744073709551616) : Y P n S L ⟨dst, .binOp .mul t x y t', rty, pos, af, gd⟩ (.int .u64 ((a * b : Nat) : Int)) :=
  (y_mul hx hy).cast (by rw [← Int.natCast_mul, wrap_u64 h])
theorem y_subU {a b : Nat} (hx : ev L x = some (.int .u64 (a : Int))) (hy : ev L y = some (.int .u64 (b : Int))) (h : b ≤ a ∧ a < 18446744073709551616) : Y P n S L ⟨dst, .binOp .sub t x y t', rty, pos, af, gd⟩ (.int .u64 ((a - b : Nat) : Int)) :=
  (y_sub hx hy).cast (by rw [IntKind.wrap_u64]; congr 1; omega)
theorem y_quoU {a b : Nat} (hx : ev L x = some (.int .u64 (a : Int))) (hy : ev L y = some (.int .u64 (b : Int))) (h : 0 < b ∧ a < 18446744073709551616) : Y P n S L ⟨dst, .binOp .quo t x y t', rty, pos, af, gd⟩ (.int .u64 ((a / b : Nat) : Int)) :=
  (y_quo hx hy (by omega)).cast (by
    have e : ((a : Int)).tdiv (b : Int) = ((a / b : Nat) : Int) := by rw [Int.tdiv_eq_ediv_of_nonneg (by omega)]; simp
    have h1 : a / b ≤ a := Nat.div_le_self _ _
    rw [e, wrap_u64 (by omega)])
/-- a slot's value kept as a fact: what a slice of one's own is -/
theorem tk_own1 {v : Value} {xs : List Value} {m : Nat} {T : TypeId} (hm : own v m xs T 1 ∈ H) (h : (∃ w0, RdS w0 v xs) → TK c K L H) : TK c K L H := tk_form (fun w hw => ⟨w, own_rdS (hw.mem hm)⟩) h
end
/-! ### within a drawn region more may be kept from some point on -/
theorem AnyX.more {P : Program} {ops : Array Oper} {Q : Exit → Act → World → Prop} {S S' : World → Prop} (hS : ∀ w, S' w → S w) : ∀ (f : Nat) (l : Array Bool) (a : Act) (w : World), S' w → AnyX P ops Q S' [] f l a w → AnyX P ops Q S [] f l a w
  | 0, _, _, _, _, h => h
  | f + 1, _, _, w, h0, h => ⟨h.1, fun i hi => wpOp_mono (fun _ w' h' => by
      rcases h'.1 with h1 | h1
      · cases h1
      · exact ⟨.inr fun _ => hS _ (h1 h0), AnyX.more hS f _ _ _ (h1 h0) h'.2⟩) (h.2 i hi)⟩
theorem tx_more {c : Cx} {L : Sl} {H H' : List Res} {P : Program} {Q : Exit → Act → World → Prop} {ops : Array Oper} {f : Nat} {l : Array Bool} (H'' : List Res) (h1 : ∀ w, St c w H'' → St c w H') (h0 : ∀ w, St c w H → St c w H'')
    (h : TK c (AnyX P ops Q (fun w => St c w H'') [] f l) L H) : TK c (AnyX P ops Q (fun w => St c w H') [] f l) L H := fun a w ha hw => AnyX.more h1 _ _ _ _ (h0 w hw) (h a w ha hw)

/-! ### a struct's value built of parts -/
def fillL (pl : List (Nat × Nat)) (cs : List Value) : List (Nat × List Value) → Option (List Value)
  | [] => some cs
  | (i, v) :: r => match pl[i]? with
    | none => none
    | some (o, k) => if v.length = k ∧ o + k ≤ cs.length then fillL pl (cs.take o ++ v ++ cs.drop (o + k)) r else none
theorem foldl_set (o : Nat) : ∀ (v : List Value) (j : Nat) (cs : Array Value), o + j + v.length ≤ cs.size →
    ((v.zipIdx j).foldl (fun cs (p : Value × Nat) => cs.setIfInBounds (o + p.2) p.1) cs) = (cs.toList.take (o + j) ++ v ++ cs.toList.drop (o + j + v.length)).toArray
  | [], j, cs, _ => by simp
  | u :: v, j, cs, h => by
    simp only [List.length_cons] at h
    rw [List.zipIdx_cons, List.foldl_cons, foldl_set o v (j + 1) _ (by simp; omega)]
    congr 1
    rw [Array.toList_setIfInBounds]
    have e3 : (cs.toList.set (o + j) u).take (o + (j + 1)) = cs.toList.take (o + j) ++ [u] := by
      rw [show o + (j + 1) = (o + j) + 1 by omega, List.take_add_one, List.take_set_of_le (by omega)]
      have hlt : o + j < cs.size := by omega
      simp [hlt]
    have e4 : (cs.toList.set (o + j) u).drop (o + (j + 1) + v.length) = cs.toList.drop (o + j + (u :: v).length) := by
      rw [List.drop_set, if_pos (by omega)]; congr 1; simp; omega
    rw [e3, e4]; simp
theorem fill_L {pl : List (Nat × Nat)} : ∀ (vs : List (Nat × Value)) (cs : List Value) {r : List Value}, fillL pl cs (vs.map fun p => (p.1, p.2.cells.toList)) = some r → Instr.fill (pl.toArray[·]?) cs.toArray vs = some r.toArray
  | [], cs, r, h => by simp [fillL] at h; subst h; rfl
  | (i, v) :: vs, cs, r, h => by
    simp only [List.map_cons, fillL] at h
    simp only [Instr.fill]
    cases hp : pl[i]? with
    | none => rw [hp] at h; cases h
    | some q =>
      obtain ⟨o, k⟩ := q
      rw [hp] at h
      simp only at h
      have e0 : pl.toArray[i]? = some (o, k) := by simpa using hp
      rw [e0]
      split at h
      · rename_i hc
        obtain ⟨h1, h2⟩ := hc
        have h1' : v.cells.size = k := by simpa using h1
        have e1 : ¬ ((decide (v.cells.size ≠ k) || decide (o + v.cells.size > cs.toArray.size)) = true) := by simp; omega
        simp only
        rw [if_neg e1]
        have e2 := foldl_set o v.cells.toList 0 cs.toArray (by simp; omega)
        have e3 : v.cells.zipIdx.foldl (fun cs (p : Value × Nat) => cs.setIfInBounds (o + p.2) p.1) cs.toArray = (cs.take o ++ v.cells.toList ++ cs.drop (o + k)).toArray := by
          rw [← Array.foldl_toList, Array.toList_zipIdx]
          rw [e2]; simp [h1']
        rw [e3]
        exact fill_L vs _ h
      · cases h
theorem run_build {P : Program} {t : TypeId} {fs : Array Field} {pl : List (Nat × Nat)} {zs cs : List Value} {vs : List (Nat × Value)} (hu : P.underlying t = some (.struct fs)) (hz : ∀ w, (zeroValue t).run P w = .ok (.agg zs.toArray) w)
    (hpl : ∀ w, (fs.mapM fun (f : Field) => (do pure (f.offset, ← Go.sizeOf f.type) : Sem (Nat × Nat))).run P w = .ok pl.toArray w) (hf : fillL pl zs (vs.map fun p => (p.1, p.2.cells.toList)) = some cs) (w : World) : (Instr.build t vs.toArray).run P w = .ok (.agg cs.toArray) w := by
  have h1 := fill_L vs zs hf
  have h2 : (Value.agg zs.toArray).cells = zs.toArray := rfl
  simp only [Instr.build, Sem.run_bind, hz w, Result.andThen, run_underlying hu, hpl w, h2]
  rw [h1]; rfl
/-- what else is there stays; what is not asked for goes -/
theorem Spec.frame {P : Program} {f : FuncId} {args : List Value} {w : World} {H0 F : List Res} {Y : Type} {R : Y → Prop} {res : Y → Value} {N : Y → List Res} (h : Spec P f args w H0 R res N) (hp : Pre w (H0 ++ F)) :
    Spec P f args w (H0 ++ F) R res (fun y => N y ++ F) := by
  refine Calls.mono h ?_
  rintro e w' ⟨y, hR, he, hf, hN, hd, ho⟩
  have hs := Hs_append.1 hp.1
  have dj := Dj_append.1 hp.2
  have hlt : ∀ k, Fs F k → k < w.heap.size := fun k hk => Fs.bnd hs.2 k hk
  refine ⟨y, hR, he, hf.mono fun k hk => Fs_append.2 (.inl hk), Hs_append.2 ⟨hN, Hs.loc (fun k hk => hf.block k (hlt k hk) (fun h0 => dj.2.2 k h0 hk)) hs.2⟩, Dj_append.2 ⟨hd, dj.2.1, fun k hk hr => ?_⟩, fun k hk => ?_⟩
  · rcases ho k hk with h1 | h1
    · exact dj.2.2 k h1 hr
    · have := hlt k hr; omega
  · rcases Fs_append.1 hk with hk | hk
    · rcases ho k hk with h1 | h1
      · exact .inl (Fs_append.2 (.inl h1))
      · exact .inr h1
    · exact .inl (Fs_append.2 (.inr hk))
theorem Spec.less {P : Program} {f : FuncId} {args : List Value} {w : World} {H0 : List Res} {Y : Type} {R : Y → Prop} {res : Y → Value} {N N' : Y → List Res} (h : Spec P f args w H0 R res N) (hs : ∀ y, (N' y).Sublist (N y)) :
    Spec P f args w H0 R res N' := by
  refine Calls.mono h ?_
  rintro e w' ⟨y, hR, he, hf, hN, hd, ho⟩
  exact ⟨y, hR, he, hf, Hs.sub (hs y) hN, Dj.sub (hs y) hd, fun k hk => ho k (Fs.sub (hs y) hk)⟩
end Go.Proofs.YtfofkjajlfphjaaDoor

/- Engine: greatest, more. Own work for this project; no program in sight. -/
namespace Go.Proofs.YtfofkjajlfphjaaDoor
open Go Go.RowKit
theorem RdS.cells {w : World} {v : Value} {vs : List Value} (h : RdS w v vs) : v.cells = #[v] := by
  rcases h with ⟨rfl, _⟩ | ⟨ad, cp, rfl, _⟩ <;> rfl
section
variable {P : Program} {L : Sl} {rty : TypeId} {pos : String} {af : Array Edge} {gd : Option (Nat × Bool)} {x y z : Operand} {n : Nat} {S : World → Prop} {dst : Option Tmp} {t t' : TypeId}
theorem y_maxN {a b : Nat} {ty : Array TypeId} (hx : ev L x = some (I (a : Int))) (hy : ev L y = some (I (b : Int))) :
    Y P n S L ⟨dst, .call { callee := .builtin .max, args := #[x, y], argTypes := ty }, rty, pos, af, gd⟩ (I ((max a b : Nat) : Int)) := fun q w ha _ => by
  have h1 := ha.ev hx; have h2 := ha.ev hy
  simp [execOp, resolve, h1, h2, invoke, builtin, Builtin.max_, Builtin.max2, List.foldlM]
  (repeat' split) <;> omega
theorem run_eqS {w : World} {d m cp : Nat} {e : TypeId} {ad : Option Addr} (ht : P.underlying t = some (.slice e)) : (Op.equalIn (d + 1) t (.slice ad m cp) (.slice none 0 0)).run P w = .ok ad.isNone w := by
  rw [Op.equalIn, Sem.run_bind, run_underlying ht]; cases ad <;> rfl
theorem run_eqP {w : World} {d : Nat} {e : TypeId} {ad : Option Addr} (ht : P.underlying t = some (.pointer e)) : (Op.equalIn (d + 1) t (.pointer ad) (.pointer none)).run P w = .ok ad.isNone w := by
  rw [Op.equalIn, Sem.run_bind, run_underlying ht]; cases ad <;> rfl
theorem y_eqS {e : TypeId} {ad : Option Addr} {m cp : Nat} (ht : P.underlying t = some (.slice e)) (hx : ev L x = some (.slice ad m cp)) (hy : ev L y = some (.slice none 0 0)) : Y P n S L ⟨dst, .binOp .eql t x y t', rty, pos, af, gd⟩ (.bool ad.isNone) := fun q w ha _ => by
  have h1 := ha.ev hx; have h2 := ha.ev hy
  have e2 : (Op.equal t (.slice ad m cp) (.slice none 0 0)).run P w = .ok ad.isNone w := run_eqS (d := 9999) ht
  simp [execOp, h1, h2, binOp, e2, eqGuard_at_slice]
theorem y_eqP {e : TypeId} {ad : Option Addr} (ht : P.underlying t = some (.pointer e)) (hx : ev L x = some (.pointer ad)) (hy : ev L y = some (.pointer none)) : Y P n S L ⟨dst, .binOp .eql t x y t', rty, pos, af, gd⟩ (.bool ad.isNone) := fun q w ha _ => by
  have h1 := ha.ev hx; have h2 := ha.ev hy
  have e2 : (Op.equal t (.pointer ad) (.pointer none)).run P w = .ok ad.isNone w := run_eqP (d := 9999) ht
  simp [execOp, h1, h2, binOp, e2, eqGuard_at_pointer]
theorem y_eqSn {e : TypeId} (ht : P.underlying t = some (.slice e)) (hx : ev L x = some (.slice none 0 0)) (hy : ev L y = some (.slice none 0 0)) : Y P n S L ⟨dst, .binOp .eql t x y t', rty, pos, af, gd⟩ (.bool true) := y_eqS ht hx hy
theorem y_eqSs {e : TypeId} {ad : Addr} {m cp : Nat} (ht : P.underlying t = some (.slice e)) (hx : ev L x = some (.slice (some ad) m cp)) (hy : ev L y = some (.slice none 0 0)) : Y P n S L ⟨dst, .binOp .eql t x y t', rty, pos, af, gd⟩ (.bool false) := y_eqS ht hx hy
end
section
variable {c : Cx} {L : Sl} {H : List Res} {P : Program} {Q : Exit → Act → World → Prop} {K : Act → World → Prop} {n : Nat} {S : World → Prop} {dst : Option Tmp}
  {d : Nat} {rty : TypeId} {pos : String} {af : Array Edge} {gd : Option (Nat × Bool)} {o : Operand}
theorem y_makeFunc {fn : Fn} {xs : List Operand} {cs : List Value} (hx : evs L xs = some cs) : Y P n S L ⟨dst, .makeFunc fn #[] xs.toArray, rty, pos, af, gd⟩ (.func fn #[] cs.toArray) := fun q w ha _ => by
  have h1 := evs_map ha hx
  simp [execOp, Instr.makeFunc, h1]
/-- a call of a function value, what it holds behind the arguments -/
theorem a_callc {f : FuncId} {xs : List Operand} {aty : Array TypeId} {vs cs : List Value} {X : Type} {H0 : List Res} (H1 H2 : List Res) {R : X → Prop} {res : X → Value} {N : X → List Res}
    (ho : ev L o = some (.func (.func f) #[] cs.toArray)) (hx : evs L xs = some vs) (hf : bodyB P f = true) (hn : Nat.blt d c.n = true)
    (hs : ∀ w, St c w H → Spec P f (vs ++ cs) w H0 R res N) (hH : H = H1 ++ (H0 ++ H2))
    (h : ∀ x, R x → TK c K ((d, res x) :: L) (H1 ++ (N x ++ H2))) :
    TK c (fun a w => (⟨some d, .call { callee := .value o, args := xs.toArray, argTypes := aty }, rty, pos, af, gd⟩ : Oper).wp P a w K Q) L H := fun a w ha hw => by
  have h1 := evs_map ha hx
  have h0 := ha.ev ho
  have e : (execOp a.eval (⟨some d, .call { callee := .value o, args := xs.toArray, argTypes := aty }, rty, pos, af, gd⟩ : Oper)).run P w = .ok (.enter f (vs ++ cs).toArray) w := by
    simp [execOp, resolve, h0, Deferred.ofValue, invoke, h1, callFunc_run hf]
  change Oper.upon P _ a K Q ((execOp a.eval _).run P w)
  rw [e, Oper.upon_enter]
  refine Calls.mono (hs w hw) ?_
  rintro e w' ⟨x, hR, rfl, hfo, hN, hd, ho'⟩
  exact h x hR _ _ (ha.put hn _) ((hw.call (Hr := H1 ++ H2) (hH ▸ perm_mid) hfo hN hd ho').perm perm_mid)
end
section
variable {L : Sl} {P : Program} {n : Nat} {S : World → Prop}
theorem cell_run {a : Act} {w : World} {p b o : Nat} {ty : TypeId} {vs : List Value} (ha : Agr n a L) (hp : lk p L = some (.pointer (some ⟨b, o, none⟩))) (ht : agB P ty vs.length = true)
    (hc : ∀ (j : Nat) (u : Value), vs[j]? = some u → w.cell? ((⟨b, o, none⟩ : Addr).add j) = some u) :
    (do loadVar ty (← asAddr (a.tmps.getD p undef))).run P w = .ok (.agg vs.toArray) w := by
  have h1 := ha.at_ p _ hp
  have e1 : a.tmps.getD p undef = .pointer (some ⟨b, o, none⟩) := by rw [Array.getD_eq_getD_getElem?, h1]; rfl
  have e2 := run_loadCells_list (P := P) (w := w) ⟨b, o, none⟩ vs hc
  have e3 : (loadVar ty ⟨b, o, none⟩).run P w = .ok (.agg vs.toArray) w := by simp [loadVar, (agB_run ht).1, (agB_run ht).2, e2]
  rw [e1]
  simp [asAddr, e3]
theorem rct {fn : Func} {p b o q : Nat} {ty : TypeId} {vs : List Value} {u : Value} (h : fn.results = #[.cell p ty, .tmp q]) (hp : lk p L = some (.pointer (some ⟨b, o, none⟩))) (ht : agB P ty vs.length = true)
    (hc : ∀ w, S w → ∀ (j : Nat) (u : Value), vs[j]? = some u → w.cell? ((⟨b, o, none⟩ : Addr).add j) = some u) (hu : lk q L = some u) :
    ∀ a w, Agr n a L → S w → (results fn a.tmps).run P w = .ok (.tuple #[.agg vs.toArray, u]) w := fun a w ha hs => by
  have e1 := cell_run ha hp ht (hc w hs)
  have h2 := ha.at_ q u hu
  have e2 : a.tmps.getD q undef = u := by rw [Array.getD_eq_getD_getElem?, h2]; rfl
  have e4 : (results fn a.tmps) = (do let v ← (do loadVar ty (← asAddr (a.tmps.getD p undef))); pure (.tuple #[v, a.tmps.getD q undef])) := by
    unfold results; rw [h]; simp
  rw [e4, e2, Sem.run_bind, e1]
  rfl
theorem rcct {fn : Func} {p b o q p2 b2 o2 : Nat} {ty ty2 : TypeId} {vs vs2 : List Value} {u : Value} (h : fn.results = #[.cell p ty, .cell p2 ty2, .tmp q]) (hp : lk p L = some (.pointer (some ⟨b, o, none⟩))) (ht : agB P ty vs.length = true)
    (hc : ∀ w, S w → ∀ (j : Nat) (u : Value), vs[j]? = some u → w.cell? ((⟨b, o, none⟩ : Addr).add j) = some u)
    (hp2 : lk p2 L = some (.pointer (some ⟨b2, o2, none⟩))) (ht2 : agB P ty2 vs2.length = true)
    (hc2 : ∀ w, S w → ∀ (j : Nat) (u : Value), vs2[j]? = some u → w.cell? ((⟨b2, o2, none⟩ : Addr).add j) = some u) (hu : lk q L = some u) :
    ∀ a w, Agr n a L → S w → (results fn a.tmps).run P w = .ok (.tuple #[.agg vs.toArray, .agg vs2.toArray, u]) w := fun a w ha hs => by
  have e1 := cell_run ha hp ht (hc w hs)
  have e3 := cell_run ha hp2 ht2 (hc2 w hs)
  have h2 := ha.at_ q u hu
  have e2 : a.tmps.getD q undef = u := by rw [Array.getD_eq_getD_getElem?, h2]; rfl
  have e4 : (results fn a.tmps) = (do let v ← (do loadVar ty (← asAddr (a.tmps.getD p undef))); let v2 ← (do loadVar ty2 (← asAddr (a.tmps.getD p2 undef))); pure (.tuple #[v, v2, a.tmps.getD q undef])) := by
    unfold results; rw [h]; simp
  rw [e4, e2, Sem.run_bind, e1]
  show (do let v2 ← (do loadVar ty2 (← asAddr (a.tmps.getD p2 undef))); pure (Value.tuple #[.agg vs.toArray, v2, u])).run P w = _
  rw [Sem.run_bind, e3]
  rfl
end
theorem fill2 {zs a b cs : List Value} {n m k : Nat} (ha : a.length = n) (hb : b.length = m) (hz : zs.length = k) (hk : n + m = k) (e : a ++ b = cs) : fillL [(0, n), (n, m)] zs [(0, a), (1, b)] = some cs := by
  subst ha; subst hb; subst hk; subst e
  simp only [fillL, List.getElem?_cons_zero, List.getElem?_cons_succ]
  have h1 : (zs.take 0 ++ a ++ zs.drop (0 + a.length)).length = a.length + b.length := by simp; omega
  rw [if_pos ⟨trivial, by omega⟩, if_pos ⟨trivial, by omega⟩]
  have h2 : zs.take 0 ++ a ++ zs.drop (0 + a.length) = a ++ zs.drop a.length := by simp
  rw [h2, List.take_left, List.drop_of_length_le (by rw [h2] at h1; omega), List.append_nil]
section
variable {c : Cx} {L : Sl} {H : List Res} {P : Program} {Q : Exit → Act → World → Prop} {K : Act → World → Prop} {d : Nat} {rty : TypeId} {pos : String} {af : Array Edge} {gd : Option (Nat × Bool)} {t : TypeId} {x : Operand}
/-- []byte("..") of a constant: its row is marked behind its end -/
theorem a_convX {H1 H2 : List Res} {b n m : Nat} {cs : List Value} {T e : TypeId} (hx : ev L x = some (.slice (some ⟨b, 0, none⟩) n m)) (ht : P.underlying t = some (.slice e)) (he : P.underlying e = some (.int .u8)) (hn : Nat.blt d c.n = true)
    (hH : H = H1 ++ cel b cs T :: H2) (h : TK c K ((d, .slice (some ⟨b, 0, none⟩) n m) :: L) (H1 ++ cel b cs T :: H2)) :
    TK c (fun a w => (⟨some d, .convert t t x, rty, pos, af, gd⟩ : Oper).wp P a w K Q) L H := fun a w ha hw => by
  subst hH
  have h1 := ha.ev hx
  obtain ⟨fr, hb, hf⟩ := hw.mem (r := cel b cs T) (by simp)
  have hsh : w.shape? b = some (T, cs.length) := by simp [World.shape?, hb]
  have e1 : (execOp a.eval (⟨some d, .convert t t x, rty, pos, af, gd⟩ : Oper)).run P w = .ok (.value (.slice (some ⟨b, 0, none⟩) n m)) (w.freeze ⟨b, cs.length, none⟩ 1) := by
    simp [execOp, h1, convert, run_underlying ht, run_underlying he, markStringish, hsh]
  change Oper.upon P _ a K Q ((execOp a.eval _).run P w)
  rw [e1, Oper.upon_value]
  have hz : (w.freeze ⟨b, cs.length, none⟩ 1).heap.size = w.heap.size := by simp [World.freeze]
  have hat : (w.freeze ⟨b, cs.length, none⟩ 1).heap[b]? = some (.cells cs.toArray T (if fr.1 == fr.2 then (cs.length, cs.length + 1) else (min fr.1 cs.length, max fr.2 (cs.length + 1)))) := by
    simp [World.freeze, Array.getElem?_modify, hb]
  refine h _ _ (ha.put hn _) (St.perm (St.turn (N := [cel b cs T]) hw ⟨rfl, rfl, rfl, by rw [hz]; exact Nat.le_refl _, fun k hk hne => ?_⟩ ⟨⟨_, hat, ?_⟩, trivial⟩ ⟨fun _ _ h => h, trivial⟩ (fun k hk => ?_)) perm_mid)
  · have hkb : b ≠ k := fun e => hne e.symm
    simp [World.freeze, Array.getElem?_modify, hkb]
  · simp only [nofr] at hf ⊢
    by_cases hq : fr.1 = fr.2
    · left; simp [hq]
    · rcases hf with hf | hf
      · left; rw [if_neg (by simpa using hq)]; show cs.length ≤ min fr.1 cs.length; omega
      · exact absurd hf.symm hq
  · rcases hk with hk | hk
    · exact .inl hk
    · exact hk.elim
end
end Go.Proofs.YtfofkjajlfphjaaDoor

/- Engine: append of a string's bytes. Own work for this project; no program in sight. -/
namespace Go.Proofs.YtfofkjajlfphjaaDoor
open Go Go.RowKit
theorem run_append_room2 {P : Program} {w : World} {t tx ty e T : TypeId} {i : TypeInfo} (ht : P.underlying t = some (.slice e)) (hi : P.info? e = some i) {g o n cap : Nat} {cur : Array Value} {fr : Nat × Nat} (hg : w.heap[g]? = some (.cells cur T fr)) (hf : nofr fr cur.size)
    {x : Value} {m : Nat} {news : List Value} (hx : Src P i.size tx x m news w) (hroom : n + m ≤ cap) (hs : o + cap * i.size ≤ cur.size) :
    ∃ w', (Builtin.append_ #[t, tx] ty #[.slice (some ⟨g, o, none⟩) n cap, x]).run P w = .ok (.slice (some ⟨g, o, none⟩) (n + m) cap) w' ∧
      w'.heap[g]? = some (.cells (cur.toList.take (o + n * i.size) ++ news ++ cur.toList.drop (o + n * i.size + news.length)).toArray T fr) ∧ Fo (fun k => k = g) w w' := by
  have hl := hx.newsLen
  have hfit : o + n * i.size + 0 + news.length ≤ cur.toList.length := by
    have := Nat.mul_le_mul_right i.size hroom
    rw [Nat.add_mul] at this
    rw [hl, Array.length_toList]; omega
  obtain ⟨w', h2, h3, h4⟩ := run_storeCells P g T news (o + n * i.size) 0 w cur.toList fr (by simpa using hg) (by simpa using hf) hx.one hfit
  simp only [Nat.add_zero] at h3
  refine ⟨w', ?_, h3, h4⟩
  rcases hx.kind with ⟨e', hk⟩ | hk <;> simp [Builtin.append_, run_underlying ht, run_underlying hk, sizeOf, typeInfo, hi, hx.len, hroom, hx.cells, add_w, h2]
theorem run_app2 {P : Program} {w : World} {t tx ty e : TypeId} {i : TypeInfo} {z : Value} (ht : P.underlying t = some (.slice e)) (hi : P.info? e = some i) (hz : i.zero = some z) (hzs : z.cells.size = i.size)
    {v x : Value} {n m : Nat} {xs news : List Value} (hown : (own v n xs e i.size).holds w) (hx : Src P i.size tx x m news w)
    (h63 : n + m ≤ maxLen) (hbytes : (n + m) * i.bytes ≤ 140737488355328) :
    ∃ v' w', (Builtin.append_ #[t, tx] ty #[v, x]).run P w = .ok v' w' ∧ (own v' (n + m) (xs ++ news) e i.size).holds w' ∧ Fo (fun k => v.ownBlock = some k) w w' ∧ (∀ k, v'.ownBlock = some k → v.ownBlock = some k ∨ w.heap.size ≤ k) := by
  have hl := hx.newsLen
  have hsmall : n + m ≤ 9223372036854775807 := by simp only [maxLen] at h63; omega
  have hlen : (xs ++ news).length = (n + m) * i.size := by rw [List.length_append, hown.1, hl, Nat.add_mul]
  have grown : ∀ (old : Nat), old < n + m → ∀ E,
      (own (.slice (some ⟨w.heap.size, 0, none⟩) (n + m) (grownCap w (n + m) old e)) (n + m) (xs ++ news) e i.size).holds (w.drew.alloc (.cells ((xs ++ news).toArray ++ Builtin.zeroCells z.cells (grownCap w (n + m) old e - (n + m))) e)) ∧
      Fo E w (w.drew.alloc (.cells ((xs ++ news).toArray ++ Builtin.zeroCells z.cells (grownCap w (n + m) old e - (n + m))) e)) := by
    intro old ho E
    have hge := grownCap_ge w (n + m) old e
    have hcm : grownCap w (n + m) old e ≤ maxLen := grownCap_le_maxLen w (n + m) old e h63
    refine ⟨⟨hlen, .inr ⟨w.heap.size, 0, _, _, (0, 0), e, rfl, heap_alloc_new w.drew _, .inr rfl, hge, hcm, ?_, ?_⟩⟩, ⟨rfl, rfl, rfl, by simp, fun k hk _ => Below.heap_alloc w.drew _ k hk⟩⟩
    · rw [Nat.zero_add]
      apply Nat.le_of_eq
      simp only [Array.size_append, List.size_toArray, size_zeroCells, hzs, hlen, ← Nat.add_mul]
      congr 1
      omega
    · rw [List.drop_zero]
      simp only [Array.toList_append]
      rw [← hlen]
      exact List.take_left
  obtain ⟨hx1, hx2⟩ := hown
  rcases hx2 with ⟨rfl, rfl⟩ | ⟨g, o, cap, cur, fr, T, rfl, hg, hf, hnc, hcm, hcs, htake⟩
  · have hx0 : xs = [] := List.eq_nil_of_length_eq_zero (by simpa using hx1)
    subst hx0
    by_cases hm : m = 0
    · subst hm
      have hn : news = [] := List.eq_nil_of_length_eq_zero (by simpa using hl)
      subst hn
      refine ⟨.slice none 0 0, w, ?_, own_nil, Fo.refl _ _, fun k hk => .inl hk⟩
      rcases hx.kind with ⟨e', hk⟩ | hk <;> simp [Builtin.append_, run_underlying ht, run_underlying hk, sizeOf, typeInfo, hi, hx.len, hx.cells]
    · have hr := run_append_grow_src (P := P) w t tx ty e i z ht hi hz none 0 0 [] (run_firstCells_none w.drew i.size 0 0 0) x m news hx (by omega) (by omega) (growslice_fits (by omega) hbytes)
      have hgr := grown 0 (by omega) (fun k => (Value.slice none 0 0).ownBlock = some k)
      exact ⟨_, _, hr, hgr.1, hgr.2, fun k hk => by simp [Value.ownBlock] at hk; exact .inr (by omega)⟩
  · by_cases hroom : n + m ≤ cap
    · obtain ⟨w', hr, hb, hfo⟩ := run_append_room2 (ty := ty) ht hi hg hf hx hroom hcs
      have hmul : (n + m) * i.size ≤ cap * i.size := Nat.mul_le_mul_right _ hroom
      have hmul2 : (n + m) * i.size = n * i.size + m * i.size := Nat.add_mul _ _ _
      have hsz' : (cur.toList.take (o + n * i.size) ++ news ++ cur.toList.drop (o + n * i.size + news.length)).length = cur.size := by
        simp only [List.length_append, List.length_take, List.length_drop, Array.length_toList, hl]
        omega
      refine ⟨_, w', hr, ⟨hlen, .inr ⟨g, o, cap, _, fr, T, rfl, hb, ?_, hroom, hcm, ?_, ?_⟩⟩, hfo.mono (fun k hk => by simp [Value.ownBlock, hk]), fun k hk => .inl hk⟩
      · rw [List.size_toArray, hsz']; exact hf
      · rw [List.size_toArray, hsz']; exact hcs
      · have e1 : cur.toList.take (o + n * i.size) = cur.toList.take o ++ xs := by rw [List.take_add, htake]
        have e2 : (cur.toList.take o).length = o := by rw [List.length_take, Array.length_toList]; omega
        rw [e1, List.append_assoc, List.append_assoc, List.drop_left' e2, ← List.append_assoc, ← hlen]
        exact List.take_left
    · have holds : ∀ j u, xs[j]? = some u → w.cell? ((⟨g, o, none⟩ : Addr).add j) = some u := fun j u hj => by
        rcases own_cells (w := w) (e := e) ⟨hx1, .inr ⟨g, o, cap, cur, fr, T, rfl, hg, hf, hnc, hcm, hcs, htake⟩⟩ with ⟨h0, _⟩ | ⟨g', o', cap', h0, _, _, hc⟩
        · cases h0
        · cases h0; rw [add_w]; exact hc j u hj
      have hr := run_append_grow_src (P := P) w t tx ty e i z ht hi hz (some ⟨g, o, none⟩) n cap xs (run_firstCells_some w.drew i.size n ⟨g, o, none⟩ n cap xs hx1 (by simpa using holds)) x m news hx (by omega) (by omega) (growslice_fits (by omega) hbytes)
      have hgr := grown cap (by omega) (fun k => (Value.slice (some ⟨g, o, none⟩) n cap).ownBlock = some k)
      exact ⟨_, _, hr, hgr.1, hgr.2, fun k hk => by simp [Value.ownBlock] at hk; exact .inr (by omega)⟩
section
variable {c : Cx} {L : Sl} {H : List Res} {P : Program} {Q : Exit → Act → World → Prop} {K : Act → World → Prop} {d : Nat} {rty : TypeId} {pos : String} {af : Array Edge} {gd : Option (Nat × Bool)} {t tx : TypeId} {x y : Operand} {v : Value}
/-- append a string's bytes to an owned slice of bytes -/
theorem a_appStr {H1 H2 : List Res} {l m : List UInt8} {T : TypeId} {bytes : Nat} (hx : ev L x = some v) (hy : ev L y = some (Str m)) (he : elB P t T 1 bytes) (hk : P.underlying tx = some .string) (hn : Nat.blt d c.n = true)
    (hH : H = H1 ++ ownB v l T :: H2) (hb : l.length + m.length ≤ 140737488355328 ∧ (l.length + m.length) * bytes ≤ 140737488355328) (h : ∀ v', TK c K ((d, v') :: L) (H1 ++ ownB v' (l ++ m) T :: H2)) :
    TK c (fun a w => (⟨some d, .call { callee := .builtin .append, args := #[x, y], argTypes := #[t, tx] }, rty, pos, af, gd⟩ : Oper).wp P a w K Q) L H := fun a w ha hw => by
  subst hH
  have h2 := ha.ev hx; have h3 := ha.ev hy
  obtain ⟨ht, i, z, hi, hz, hzs, hs1, rfl, hsz⟩ := he
  have hS : Src P i.size tx (Str m) m.length (m.map B) w := by
    have := Src.ofString (P := P) w hk ⟨m.toArray⟩
    rw [hs1]
    have e1 : (ByteArray.mk m.toArray).size = m.length := by simp [ByteArray.size]
    have e2 : byteCells ⟨m.toArray⟩ = m.map B := rfl
    rw [e1, e2] at this; exact this
  have ho0 : (own v l.length (l.map B) T i.size).holds w := by rw [hs1]; exact hw.mem (r := ownB v l T) (by simp)
  obtain ⟨v', w', hr, ho, hf, hkk⟩ := run_app2 (ty := rty) ht hi hz (hzs.trans hs1.symm) ho0 hS (by simp only [maxLen]; omega) hb.2
  rw [hs1] at ho
  have e : (execOp a.eval (⟨some d, .call { callee := .builtin .append, args := #[x, y], argTypes := #[t, tx] }, rty, pos, af, gd⟩ : Oper)).run P w = .ok (.value v') w' := by
    simp [execOp, resolve, h2, h3, invoke, builtin, hr]
  change Oper.upon P _ a K Q ((execOp a.eval _).run P w)
  rw [e, Oper.upon_value]
  have ho' : (ownB v' (l ++ m) T).holds w' := by simpa [ownB] using ho
  exact h v' _ _ (ha.put hn _) ((St.turn (N := [ownB v' (l ++ m) T]) hw hf ⟨ho', trivial⟩ ⟨fun _ _ h => h, trivial⟩ (fun k h => by
    rcases h with h | h
    · exact hkk k h
    · exact h.elim)).perm perm_mid)
end
end Go.Proofs.YtfofkjajlfphjaaDoor

/- A struct's value built of its first field alone. Own work for this project; no program in sight. -/
namespace Go.Proofs.YtfofkjajlfphjaaDoor
open Go Go.RowKit
theorem fill21 {zs a cs : List Value} {n m k : Nat} (ha : a.length = n) (hz : zs.length = k) (hk : n + m = k) (e : a ++ zs.drop n = cs) : fillL [(0, n), (n, m)] zs [(0, a)] = some cs := by
  subst ha; subst hk; subst e
  simp only [fillL, List.getElem?_cons_zero]
  rw [if_pos ⟨trivial, by omega⟩]
  simp
end Go.Proofs.YtfofkjajlfphjaaDoor

/- Comparisons of structs of plain cells. Own work for this project; no program in sight. -/
namespace Go.Proofs.YtfofkjajlfphjaaDoor
open Go Go.RowKit
section
variable {P : Program} {n : Nat} {S : World → Prop} {L : Sl} {dst : Option Tmp} {rty : TypeId} {pos : String} {af : Array Edge} {gd : Option (Nat × Bool)}
  {t t' : TypeId} {x y z : Operand} {v u : Value}
/-- a part of a row of cells, seen as a value: scalar or aggregate -/
def EqC (P : Program) (d : Nat) (t : TypeId) (k : Nat) (W : List Value → Prop) : Prop :=
  ∀ (w : World) (cs ds : Array Value) (o : Nat), W ((cs.toList.drop o).take k) → W ((ds.toList.drop o).take k) →
    ∃ a b r, (part t cs o).run P w = .ok a w ∧ (part t ds o).run P w = .ok b w ∧ (Op.equalIn d t a b).run P w = .ok r w ∧ (r = true ↔ (cs.toList.drop o).take k = (ds.toList.drop o).take k)
theorem eqc_int {d : Nat} (ht : P.underlying t = some (.int .i64)) : EqC P (d + 1) t 1 (fun xs => ∃ z : Int, xs = [I z]) := fun w cs ds o h1 h2 => by
  obtain ⟨a, ha⟩ := h1; obtain ⟨b, hb⟩ := h2
  have sc : scB P t = true := by simp [scB, ht]
  have g : ∀ {cs : Array Value} {a : Int}, (cs.toList.drop o).take 1 = [I a] → cs[o]? = some (I a) := fun {cs a} h => by
    have := congrArg (fun l => l[0]?) h
    simpa using this
  refine ⟨I a, I b, _, ?_, ?_, run_equalIn_int w d t .i64 .i64 a b ht, ?_⟩
  · simp [part, scB_run sc, g ha]
  · simp [part, scB_run sc, g hb]
  · rw [ha, hb]; simp
theorem extract_list {cs : Array Value} {o k : Nat} {l : List Value} (h : (cs.toList.drop o).take k = l) : cs.extract o (o + k) = l.toArray := by
  subst h
  apply Array.ext'
  simp [Array.toList_extract]
theorem eqc_arr {d k : Nat} {e : TypeId} {kk : IntKind} (ht : P.underlying t = some (.array k e)) (hag : agB P t k = true) (he : P.underlying e = some (.int kk)) (hz : szB P e 1 = true) : EqC P (d + 2) t k (fun xs => ∃ l : List UInt8, l.length = k ∧ xs = l.map B) := fun w cs ds o h1 h2 => by
  obtain ⟨l, hl, ha⟩ := h1; obtain ⟨m, hm, hb⟩ := h2
  obtain ⟨g1, g2⟩ := agB_run (w := w) hag
  refine ⟨.agg (l.map B).toArray, .agg (m.map B).toArray, _, ?_, ?_, run_eq_bytes ht he hz hl hm, ?_⟩
  · simp [part, g1, g2, extract_list ha]
  · simp [part, g1, g2, extract_list hb]
  · rw [ha, hb]
    simp only [decide_eq_true_eq]
    refine ⟨fun h => by rw [h], fun h => ?_⟩
    refine List.map_inj_right (fun a b hab => ?_) |>.1 h
    have h3 : (a.toNat : Int) = b.toNat := by simpa [B] using hab
    exact UInt8.toNat.inj (by omega)
/-- fields one behind the other -/
inductive FE (P : Program) (d : Nat) : List Field → Nat → Nat → (List Value → Prop) → Prop
  | nil (o : Nat) : FE P d [] o 0 (fun xs => xs = [])
  | cons {f : Field} {fs : List Field} {o k e : Nat} {W W' : List Value → Prop} (h1 : f.offset = o) (h2 : f.name ≠ "_") (h3 : EqC P d f.type k W) (h4 : FE P d fs (o + k) e W') :
      FE P d (f :: fs) o (k + e) (fun xs => W (xs.take k) ∧ W' (xs.drop k))
theorem FE.run {d : Nat} (w : World) (cs ds : Array Value) : ∀ {fs : List Field} {o e : Nat} {W : List Value → Prop}, FE P d fs o e W → W ((cs.toList.drop o).take e) → W ((ds.toList.drop o).take e) →
    ∃ r, (Op.eqFields d cs ds fs).run P w = .ok r w ∧ (r = true ↔ (cs.toList.drop o).take e = (ds.toList.drop o).take e)
  | _, o, _, _, .nil _, h1, h2 => ⟨true, by simp [Op.eqFields], by simp⟩
  | _, o, _, _, .cons (f := f) (fs := fs) (k := k) (e := e) e1 e2 e3 e4, h1, h2 => by
    have c1 : ∀ {cs : Array Value}, ((cs.toList.drop o).take (k + e)).take k = (cs.toList.drop o).take k := fun {cs} => by rw [List.take_take, Nat.min_eq_left (by omega)]
    have c2 : ∀ {cs : Array Value}, ((cs.toList.drop o).take (k + e)).drop k = (cs.toList.drop (o + k)).take e := fun {cs} => by rw [List.drop_take, List.drop_drop, Nat.add_sub_cancel_left]
    obtain ⟨h11, h12⟩ := h1; obtain ⟨h21, h22⟩ := h2
    rw [c1] at h11 h21; rw [c2] at h12 h22
    obtain ⟨a, b, r, r1, r2, r3, r4⟩ := e3 w cs ds o h11 h21
    obtain ⟨r', ih, ih2⟩ := FE.run w cs ds e4 h12 h22
    have key : ((cs.toList.drop o).take (k + e) = (ds.toList.drop o).take (k + e)) ↔ ((cs.toList.drop o).take k = (ds.toList.drop o).take k ∧ (cs.toList.drop (o + k)).take e = (ds.toList.drop (o + k)).take e) := by
      constructor
      · intro h
        exact ⟨by rw [← c1, h, c1], by rw [← c2, h, c2]⟩
      · rintro ⟨ha, hb⟩
        rw [← List.take_append_drop k ((cs.toList.drop o).take (k + e)), ← List.take_append_drop k ((ds.toList.drop o).take (k + e)), c1, c1, c2, c2, ha, hb]
    simp only [Op.eqFields, e2, ne_eq, not_false_eq_true, if_true, Sem.run_bind, e1, r1, r2, r3, Result.andThen_ok]
    cases r with
    | true =>
      have h := r4.1 rfl
      refine ⟨r', by simpa using ih, ?_⟩
      rw [key, ih2]; simp [h]
    | false =>
      refine ⟨false, by simp, ?_⟩
      rw [key, ← r4]; simp
theorem EqC.weak {d k : Nat} {W W' : List Value → Prop} (h : EqC P d t k W) (hw : ∀ xs, W' xs → W xs) : EqC P d t k W' := fun w cs ds o h1 h2 => h w cs ds o (hw _ h1) (hw _ h2)
theorem eqc_struct {d k : Nat} {fs : Array Field} {W : List Value → Prop} (hag : agB P t k = true) (hts : P.underlying t = some (.struct fs)) (hp : P.stoodInHeld t = false) (hf : FE P d fs.toList 0 k W) : EqC P (d + 1) t k W := fun w cs ds o h1 h2 => by
  obtain rfl : P.fieldsOf t = fs := by simp [Program.fieldsOf, hts]
  have ht := hts
  obtain ⟨g1, g2⟩ := agB_run (w := w) hag
  have e : ∀ {cs : Array Value}, (((cs.toList.drop o).take k).toArray.toList.drop 0).take k = (cs.toList.drop o).take k := fun {cs} => by simp [List.take_take]
  obtain ⟨r, h3, h4⟩ := FE.run w ((cs.toList.drop o).take k).toArray ((ds.toList.drop o).take k).toArray hf (by rw [e]; exact h1) (by rw [e]; exact h2)
  rw [e, e] at h4
  refine ⟨.agg (cs.extract o (o + k)), .agg (ds.extract o (o + k)), r, ?_, ?_, ?_, h4⟩
  · simp [part, g1, g2]
  · simp [part, g1, g2]
  · rw [run_equalIn_struct w d t _ _ ht hp, extract_list (cs := cs) rfl, extract_list (cs := ds) rfl]; exact h3
theorem run_eqAg {d k : Nat} {w : World} {W : List Value → Prop} {xs ys : List Value} {p : Prop} [Decidable p] (hag : agB P t k = true) (he : EqC P d t k W) (hx : W xs) (hy : W ys) (lx : xs.length = k) (ly : ys.length = k) (hp : xs = ys ↔ p) :
    (Op.equalIn d t (.agg xs.toArray) (.agg ys.toArray)).run P w = .ok (decide p) w := by
  have e : ∀ {l : List Value}, l.length = k → ((l.toArray.toList).drop 0).take k = l := fun {l} h => by simp [List.take_of_length_le (Nat.le_of_eq h)]
  obtain ⟨a, b, r, r1, r2, r3, r4⟩ := he w xs.toArray ys.toArray 0 (by rw [e lx]; exact hx) (by rw [e ly]; exact hy)
  obtain ⟨g1, g2⟩ := agB_run (w := w) hag
  have e1 : ∀ {l : List Value}, l.length = k → (part t l.toArray 0).run P w = .ok (.agg l.toArray) w := fun {l} h => by
    simp only [part, Sem.run_bind, g1, g2, Result.andThen_ok, if_true, Sem.run_pure]
    rw [extract_list (l := l) (e h)]
  rw [e1 lx] at r1; rw [e1 ly] at r2
  cases r1; cases r2
  rw [e lx, e ly, hp] at r4
  rw [r3]; congr 1; rw [Bool.eq_iff_iff, r4]; simp
theorem y_stEq {k : Nat} {W : List Value → Prop} {xs ys : List Value} {p : Prop} [Decidable p] (hx : ev L x = some (.agg xs.toArray)) (hy : ev L y = some (.agg ys.toArray)) (hag : agB P t k = true) (he : EqC P 10000 t k W) (h : W xs ∧ W ys ∧ xs.length = k ∧ ys.length = k) (hg : P.eqGuardType P.depth t = false) (hp : xs = ys ↔ p) :
    Y P n S L ⟨dst, .binOp .eql t x y t', rty, pos, af, gd⟩ (.bool (decide p)) := fun q w ha _ => by
  have h1 := ha.ev hx; have h2 := ha.ev hy
  have e1 : (binOp .eql t (.agg xs.toArray) (.agg ys.toArray)) = (do pure (Value.bool (← Op.equal t (.agg xs.toArray) (.agg ys.toArray)))) := rfl
  have e2 : (Op.equal t (.agg xs.toArray) (.agg ys.toArray)).run P w = .ok (decide p) w := run_eqAg (d := 10000) hag he h.1 h.2.1 h.2.2.1 h.2.2.2 hp
  have e3 : (eqGuard .eql t x y (.agg xs.toArray) (.agg ys.toArray)).run P w = .ok () w := by simp [eqGuard, hg]
  simp only [execOp, h1, h2, e1]
  rw [Sem.run_bind, Sem.run_bind, e3, Result.andThen, Sem.run_bind, e2]; rfl
theorem y_stNe {k : Nat} {W : List Value → Prop} {xs ys : List Value} {p : Prop} [Decidable p] (hx : ev L x = some (.agg xs.toArray)) (hy : ev L y = some (.agg ys.toArray)) (hag : agB P t k = true) (he : EqC P 10000 t k W) (h : W xs ∧ W ys ∧ xs.length = k ∧ ys.length = k) (hg : P.eqGuardType P.depth t = false) (hp : xs = ys ↔ p) :
    Y P n S L ⟨dst, .binOp .neq t x y t', rty, pos, af, gd⟩ (.bool (decide (¬ p))) := fun q w ha _ => by
  have h1 := ha.ev hx; have h2 := ha.ev hy
  have e1 : (binOp .neq t (.agg xs.toArray) (.agg ys.toArray)) = (do pure (Value.bool (!(← Op.equal t (.agg xs.toArray) (.agg ys.toArray))))) := rfl
  have e2 : (Op.equal t (.agg xs.toArray) (.agg ys.toArray)).run P w = .ok (decide p) w := run_eqAg (d := 10000) hag he h.1 h.2.1 h.2.2.1 h.2.2.2 hp
  have e3 : (eqGuard .neq t x y (.agg xs.toArray) (.agg ys.toArray)).run P w = .ok () w := by simp [eqGuard, hg]
  simp only [execOp, h1, h2, e1]
  rw [Sem.run_bind, Sem.run_bind, e3, Result.andThen, Sem.run_bind, e2, decide_not]; rfl
end
section
variable {c : Cx} {L : Sl} {H : List Res} {P : Program} {Q : Exit → Act → World → Prop} {K : Act → World → Prop} {d : Nat} {rty : TypeId} {pos : String} {af : Array Edge} {gd : Option (Nat × Bool)} {t t' : TypeId} {x y : Operand}
/-- pieces that are not asked any longer -/
theorem tk_drop {H' : List Res} (hH : H'.Sublist H) (h : TK c K L H') : TK c K L H := fun a w ha hw => h a w ha (hw.sub hH)
/-- copy of a string over a whole row -/
theorem a_copyS {H1 H2 : List Res} {b n cap : Nat} {cs : List Value} {T e : TypeId} {l : List UInt8} (hx : ev L x = some (.slice (some ⟨b, 0, none⟩) n cap)) (hy : ev L y = some (Str l)) (ht : P.underlying t = some (.slice e)) (hz : szB P e 1 = true) (hn : Nat.blt d c.n = true)
    (hH : H = H1 ++ cel b cs T :: H2) (hl : l.length = n) (hcn : cs.length = n) (h : TK c K ((d, I n) :: L) (H1 ++ cel b (l.map B) T :: H2)) :
    TK c (fun a w => (⟨some d, .call { callee := .builtin .copy, args := #[x, y], argTypes := #[t, t'] }, rty, pos, af, gd⟩ : Oper).wp P a w K Q) L H := by
  subst hl
  refine a_copyT hx hy ht hz hn hH ⟨Nat.le_refl _, by omega⟩ ?_
  have e : cs.take 0 ++ l.map B ++ cs.drop (0 + l.length) = l.map B := by simp [List.drop_of_length_le (Nat.le_of_eq hcn)]
  rw [e]; exact h
end
end Go.Proofs.YtfofkjajlfphjaaDoor


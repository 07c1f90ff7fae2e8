/- key: pens with their keys by short names. -/
import Derived.Test.YtfofkjajlfphjaaDoorKeyK
import Derived.Test.YtfofkjajlfphjaaDoorWaxD
import Derived.Test.YtfofkjajlfphjaaDoorEngTwo
set_option linter.unusedSimpArgs false
set_option linter.unusedVariables false
namespace Go.Proofs.YtfofkjajlfphjaaDoor
open Go Go.RowKit
set_option maxRecDepth 100000
def kyL (q wl : List UInt8) (m : Nat) : List UInt8 := keyedL (strL ([119] ++ (wl.take (min wl.length 100))) [48, 49, 50, 51, 52, 53, 54, 55, 56, 57, 97, 98, 99, 100, 101, 102] m) q
theorem kyL_len {q wl : List UInt8} {m : Nat} : (kyL q wl m).length = 32 := keyedL_len
theorem kyL_def {q wl : List UInt8} {m : Nat} : keyedL (strL ([119] ++ (wl.take (min wl.length 100))) [48, 49, 50, 51, 52, 53, 54, 55, 56, 57, 97, 98, 99, 100, 101, 102] m) q = kyL q wl m := rfl
theorem pen2_spec {wv bv pv : Value} {wl bl nm hk mk nk b : List UInt8} {z : Int} {m : Nat} {kind : UInt8} {w : World} (hkE : kyL [104, 105, 100, 101] wl m = hk) (mkE : kyL [109, 97, 114, 107] wl m = mk) (nkE : kyL [110, 97, 109, 101] wl m = nk) (hbE : bl.take (min bl.length 100) = b) (hm5 : m < 5) (hm : (IntKind.u64.wrap z).tmod 5 = (m : Int)) (hw0 : Ro (Fs []) w (rdB wv wl)) (hb0 : Ro (Fs []) w (rdB bv bl)) (hpv : pv.oneCell' = true) (hg : Ro (Fs []) w glob) :
    Spec Tryd.prog 22 [.agg [wv, I z, bv, pv, B kind, Str nm].toArray] w [] (fun _ : Nat × Value => True)
      (fun x => .tuple #[.agg (hk.map B ++ (mk.map B ++ (nk.map B ++ [Value.pointer (some ⟨x.1, 0, none⟩)]))).toArray, .agg (hk.map B ++ (mk.map B ++ nk.map B)).toArray, .bool true]) (fun x => [cel x.1 [x.2, .int .u64 ((0 : Nat) : Int), .slice none 0 0] 160, ownB x.2 b 5]) := by
  subst hkE; subst mkE; subst nkE; subst hbE
  exact pen_spec hm5 hm hw0 hb0 hpv hg
end Go.Proofs.YtfofkjajlfphjaaDoor

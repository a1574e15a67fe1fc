/- Proofs asked for and shown. No condition. -/
import Derived.Test.YtfohfnpehfcaaaaDoorFacts
import Derived.Test.YtfohfnpehfcaaaaDoorTreeD
namespace Go.Proofs.YtfohfnpehfcaaaaDoor
open Go.Kw
set_option linter.unusedVariables false
set_option linter.unusedSimpArgs false
set_option maxRecDepth 100000
theorem equals_t (xs ys : List (List UInt8)) (a1 a2 : Option Addr) (n1 n2 c1 c2 : Nat) (w : World) (h1 : Row w a1 (xs.flatten.map b8)) (h2 : Row w a2 (ys.flatten.map b8)) (s1 : S32 xs) (s2 : S32 ys) (l1 : xs.length = n1) (l2 : ys.length = n2) (hn : n1 ≤ 4398046511104) (h : xs = ys) :
    Ret Tryd.prog 8 [.slice a1 n1 c1, .slice a2 n2 c2] w (fun v w' => v = .bool true ∧ St w [] w' []) :=
  (equals_ok xs ys a1 a2 n1 n2 c1 c2 w h1 h2 s1 s2 l1 l2 hn).mono fun v w' hv => by rw [decide_eq_true h] at hv; exact hv

end Go.Proofs.YtfohfnpehfcaaaaDoor

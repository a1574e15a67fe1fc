/- What the law's proof leans on. No condition. -/
import Derived.Test.YtflfocmfdlmjiaaPTcAH
import Derived.Test.YtflfocmfdlmjiaaPTcAV
import Derived.Test.YtflfocmfdlmjiaaPTcAU
namespace Go.Proofs.Ytflfocmfdlmjiaa
open Go.Kw
set_option linter.unusedVariables false
set_option linter.unusedSimpArgs false
set_option maxRecDepth 100000
theorem rrootBy_n (leaf : List UInt8) (ix sz : Int) (pa : Option Addr) (pn pc : Nat) (pl : List (List UInt8)) (w : World) (hleaf : leaf.length = 32) (hp : Row w pa (pl.flatten.map b8)) (h32 : S32 pl) (hpl : pl.length = pn) (hpc : pn ≤ pc) (hpm : pn ≤ 4398046511104) (hi1 : -9223372036854775808 ≤ ix) (hi2 : ix ≤ 9223372036854775807) (hs1 : -9223372036854775808 ≤ sz) (hs2 : sz ≤ 9223372036854775807) :
    Ret Try.prog 11 [.agg (leaf.map b8).toArray, .agg #[.int .i64 ix, .int .i64 sz, .slice pa pn pc]] w (fun v w' => v = .tuple #[.agg ((rootByL leaf ix sz pl).map b8).toArray, .int .i64 (rootByE ix sz pl.length)] ∧ St w [] w' []) := by
  subst hpl
  exact rrootBy_ok leaf ix sz pa pc pl w hleaf hp h32 hpc hpm hi1 hi2 hs1 hs2

end Go.Proofs.Ytflfocmfdlmjiaa
